/-
  The law's own examples hold: SourceKnown returns true in every world that holds the listed variables.
-/
import Derived.Test.YtpndamekpdajmaaGreatDoorSoR0
import Derived.Test.YtpndamekpdajmaaGreatDoorSoR1
import Derived.Test.YtpndamekpdajmaaGreatDoorSoR2
import Derived.Test.YtpndamekpdajmaaGreatDoorSoR3
import Derived.Test.YtpndamekpdajmaaGreatDoorSoR4
import Derived.Test.YtpndamekpdajmaaGreatDoorSoR5
import Derived.Test.YtpndamekpdajmaaGreatDoorSoR6
import Derived.Test.YtpndamekpdajmaaGreatDoorSoR7
import Derived.Test.YtpndamekpdajmaaGreatDoorSoR8
import Derived.Test.YtpndamekpdajmaaGreatDoorSoR9
import Derived.Test.YtpndamekpdajmaaGreatDoorSoR10
import Derived.Test.YtpndamekpdajmaaGreatDoorSoR11
import Derived.Test.YtpndamekpdajmaaGreatDoorSoR12
import Derived.Test.YtpndamekpdajmaaGreatDoorSoR13
import Derived.Test.YtpndamekpdajmaaGreatDoorSoR14
import Derived.Test.YtpndamekpdajmaaGreatDoorSoR15
import Derived.Test.YtpndamekpdajmaaGreatDoorSoR16
import Derived.Test.YtpndamekpdajmaaGreatDoorSoR17
import Derived.Test.YtpndamekpdajmaaGreatDoorSoR18
import Derived.Test.YtpndamekpdajmaaGreatDoorSoR19
import Derived.Test.YtpndamekpdajmaaGreatDoorSoR20
import Derived.Test.YtpndamekpdajmaaGreatDoorSoR21
import Derived.Test.YtpndamekpdajmaaGreatDoorSoR22
import Derived.Test.YtpndamekpdajmaaGreatDoorSoR23
import Derived.Test.YtpndamekpdajmaaGreatDoorSoR24
import Derived.Test.YtpndamekpdajmaaGreatDoorSoR25
import Derived.Test.YtpndamekpdajmaaGreatDoorSoR26
import Derived.Test.YtpndamekpdajmaaGreatDoorSoR27
import Derived.Test.YtpndamekpdajmaaGreatDoorSoR28
import Derived.Test.YtpndamekpdajmaaGreatDoorSoR29
import Derived.Test.YtpndamekpdajmaaGreatDoorSoR30
import Derived.Test.YtpndamekpdajmaaGreatDoorSoR31
import Derived.Test.YtpndamekpdajmaaGreatDoorSoR32
import Derived.Test.YtpndamekpdajmaaGreatDoorSoR33
import Derived.Test.YtpndamekpdajmaaGreatDoorSoR34
import Derived.Test.YtpndamekpdajmaaGreatDoorSoR35
import Derived.Test.YtpndamekpdajmaaGreatDoorSoR36
import Derived.Test.YtpndamekpdajmaaGreatDoorSoR37
namespace Go.Proofs.YtpndamekpdajmaaGreatDoor
open Go.Cm

set_option maxRecDepth 100000
theorem tA89 {W : World} (hK : KA W) : TF W Tryz.f110 pA117 stA85.act stA85.st (vvA123) stA87.st := triFin_code (hihA hK) runA88
theorem tA90 {W : World} (hK : KA W) : TF W Tryz.f110 cdA110 ({ n := 62, t := PT.ofList 0 (PT.nil 8) vsA84, defers := [] }) stA82.st (vvA123) stA87.st := triFin_hds (k := 3) (L1 := stA85) (hihA hK) (by kernel_rfl) runA86 (tA89 hK)
theorem tA91 {W : World} (hK : KA W) : TC W 110 vsA84 stA82.st (vvA123) stA87.st := callT_fin Tryz.func110 bdA110 (by kernel_rfl) (n := 62) (by kernel_rfl) (by kernel_rfl) (tA90 hK)
theorem tA96 {W : World} (hK : KA W) : TX W pA106 stA80.act stA80.st .normal stA94 := by
  refine tx_region (by kernel_rfl) ?_
  refine triOps_cut (i := 0) (j := 3) (L1 := stA82) (hihA hK) (by kernel_rfl) runA83 (by kernel_rfl) ?_
  refine triOps_call (i := 3) (f := 110) (fi := #[]) (ca := #[]) (v := vvA123) (L0 := stA82) (Lc := stA87) (L1 := stA92) rfl rfl (by kernel_rfl) (by kernel_rfl) (by kernel_rfl) (by kernel_rfl) (tA91 hK) runA93 ?_
  exact triOps_end (i := 4) (L1 := stA94) (hihA hK) runA95 (by kernel_rfl)
theorem tA99 {W : World} (hK : KA W) : TX W pA124 stA94.act stA94.st .normal stA97 := triX_code (hihA hK) runA98
theorem tA100 {W : World} (hK : KA W) : TX W pA105 stA80.act stA80.st .normal stA97 := tx_seq (by kernel_rfl) (tA96 hK) (tA99 hK)
theorem tA101 {W : World} (hK : KA W) : TX W pA104 stA78.act stA78.st .normal stA97 := triX_hds (k := 1) (L1 := stA80) (hihA hK) (by kernel_rfl) runA81 (tA100 hK)
theorem tA102 {W : World} (hK : KA W) : TX W pA103 stA78.act stA78.st .normal stA97 := tx_through (by kernel_rfl) (by kernel_rfl) (tA101 hK)
theorem tA105 {W : World} (hK : KA W) : TX W pA125 stA97.act stA97.st .normal stA103 := triX_code (hihA hK) runA104
theorem tA106 {W : World} (hK : KA W) : TX W pA102 stA78.act stA78.st .normal stA103 := tx_seq (by kernel_rfl) (tA102 hK) (tA105 hK)
theorem tA107 {W : World} (hK : KA W) : TX W pA101 stA76.act stA76.st .normal stA103 := triX_hds (k := 2) (L1 := stA78) (hihA hK) (by kernel_rfl) runA79 (tA106 hK)
theorem tA110 {W : World} (hK : KA W) : TX W pA101 stA103.act stA103.st (.exit 0) stA108 := triX_code (hihA hK) runA109
theorem tA111 {W : World} (hK : KA W) : TX W pA100 stA76.act stA76.st (.exit 0) stA108 := tx_loop (m := 1) (by kernel_rfl) rfl (.next (tA107 hK) (.last (tA110 hK)))
theorem tA112 {W : World} (hK : KA W) : TX W pA99 stA76.act stA76.st .normal stA108 := tx_block (by kernel_rfl) (tA111 hK)
theorem tA113 {W : World} (hK : KA W) : TX W pA98 stA74.act stA74.st .normal stA108 := triX_hds (k := 1) (L1 := stA76) (hihA hK) (by kernel_rfl) runA77 (tA112 hK)
theorem tA116 {W : World} (hK : KA W) : TF W Tryz.f88 pA126 stA108.act stA108.st (vvA132) stA114.st := triFin_code (hihA hK) runA115
theorem tA117 {W : World} (hK : KA W) : TF W Tryz.f88 pA97 stA74.act stA74.st (vvA132) stA114.st := tf_seq (by kernel_rfl) (tA113 hK) (tA116 hK)
theorem tA118 {W : World} (hK : KA W) : TF W Tryz.f88 cdA88 ({ n := 89, t := PT.ofList 0 (PT.nil 8) vsA73, defers := [] }) stA71.st (vvA132) stA114.st := triFin_hds (k := 7) (L1 := stA74) (hihA hK) (by kernel_rfl) runA75 (tA117 hK)
theorem tA119 {W : World} (hK : KA W) : TC W 88 vsA73 stA71.st (vvA132) stA114.st := callT_fin Tryz.func88 bdA88 (by kernel_rfl) (n := 89) (by kernel_rfl) (by kernel_rfl) (tA118 hK)
theorem tA124 {W : World} (hK : KA W) : TX W pA88 stA69.act stA69.st .normal stA122 := by
  refine tx_region (by kernel_rfl) ?_
  refine triOps_cut (i := 0) (j := 3) (L1 := stA71) (hihA hK) (by kernel_rfl) runA72 (by kernel_rfl) ?_
  refine triOps_call (i := 3) (f := 88) (fi := #[]) (ca := #[]) (v := vvA132) (L0 := stA71) (Lc := stA114) (L1 := stA120) rfl rfl (by kernel_rfl) (by kernel_rfl) (by kernel_rfl) (by kernel_rfl) (tA119 hK) runA121 ?_
  exact triOps_end (i := 4) (L1 := stA122) (hihA hK) runA123 (by kernel_rfl)
theorem tA127 {W : World} (hK : KA W) : TX W pA133 stA122.act stA122.st .normal stA125 := triX_code (hihA hK) runA126
theorem tA128 {W : World} (hK : KA W) : TX W pA87 stA69.act stA69.st .normal stA125 := tx_seq (by kernel_rfl) (tA124 hK) (tA127 hK)
theorem tA129 {W : World} (hK : KA W) : TX W pA86 stA67.act stA67.st .normal stA125 := triX_hds (k := 1) (L1 := stA69) (hihA hK) (by kernel_rfl) runA70 (tA128 hK)
theorem tA130 {W : World} (hK : KA W) : TX W pA85 stA67.act stA67.st .normal stA125 := tx_through (by kernel_rfl) (by kernel_rfl) (tA129 hK)
theorem tA133 {W : World} (hK : KA W) : TX W pA135 stA125.act stA125.st .normal stA131 := triX_code (hihA hK) runA132
theorem tA134 {W : World} (hK : KA W) : TX W pA84 stA67.act stA67.st .normal stA131 := tx_seq (by kernel_rfl) (tA130 hK) (tA133 hK)
theorem tA135 {W : World} (hK : KA W) : TX W pA83 stA65.act stA65.st .normal stA131 := triX_hds (k := 2) (L1 := stA67) (hihA hK) (by kernel_rfl) runA68 (tA134 hK)
theorem tA138 {W : World} (hK : KA W) : TX W pA83 stA131.act stA131.st (.exit 0) stA136 := triX_code (hihA hK) runA137
theorem tA139 {W : World} (hK : KA W) : TX W pA82 stA65.act stA65.st (.exit 0) stA136 := tx_loop (m := 1) (by kernel_rfl) rfl (.next (tA135 hK) (.last (tA138 hK)))
theorem tA140 {W : World} (hK : KA W) : TX W pA81 stA65.act stA65.st .normal stA136 := tx_block (by kernel_rfl) (tA139 hK)
theorem tA141 {W : World} (hK : KA W) : TX W pA80 stA63.act stA63.st .normal stA136 := triX_hds (k := 1) (L1 := stA65) (hihA hK) (by kernel_rfl) runA66 (tA140 hK)
theorem tA144 {W : World} (hK : KA W) : TF W Tryz.f62 pA136 stA136.act stA136.st (vvA137) stA142.st := triFin_code (hihA hK) runA143
theorem tA145 {W : World} (hK : KA W) : TF W Tryz.f62 pA79 stA63.act stA63.st (vvA137) stA142.st := tf_seq (by kernel_rfl) (tA141 hK) (tA144 hK)
theorem tA146 {W : World} (hK : KA W) : TF W Tryz.f62 cdA62 ({ n := 46, t := PT.ofList 0 (PT.nil 8) vsA62, defers := [] }) stA60.st (vvA137) stA142.st := triFin_hds (k := 4) (L1 := stA63) (hihA hK) (by kernel_rfl) runA64 (tA145 hK)
theorem tA147 {W : World} (hK : KA W) : TC W 62 vsA62 stA60.st (vvA137) stA142.st := callT_fin Tryz.func62 bdA62 (by kernel_rfl) (n := 46) (by kernel_rfl) (by kernel_rfl) (tA146 hK)
theorem tA152 {W : World} (hK : KA W) : TX W pA78 stA58.act stA58.st .normal stA150 := by
  refine tx_region (by kernel_rfl) ?_
  refine triOps_cut (i := 0) (j := 2) (L1 := stA60) (hihA hK) (by kernel_rfl) runA61 (by kernel_rfl) ?_
  refine triOps_call (i := 2) (f := 62) (fi := #[]) (ca := #[]) (v := vvA137) (L0 := stA60) (Lc := stA142) (L1 := stA148) rfl rfl (by kernel_rfl) (by kernel_rfl) (by kernel_rfl) (by kernel_rfl) (tA147 hK) runA149 ?_
  exact triOps_end (i := 3) (L1 := stA150) (hihA hK) runA151 (by kernel_rfl)
theorem tA155 {W : World} (hK : KA W) : TF W Tryz.f100 pA138 stA150.act stA150.st (.tuple #[.int .i64 2, .int .i64 0]) stA153.st := triFin_code (hihA hK) runA154
theorem tA156 {W : World} (hK : KA W) : TF W Tryz.f100 pA77 stA58.act stA58.st (.tuple #[.int .i64 2, .int .i64 0]) stA153.st := tf_seq (by kernel_rfl) (tA152 hK) (tA155 hK)
theorem tA157 {W : World} (hK : KA W) : TF W Tryz.f100 cdA100 ({ n := 17, t := PT.ofList 0 (PT.nil 8) vsA57, defers := [] }) stA55.st (.tuple #[.int .i64 2, .int .i64 0]) stA153.st := triFin_hds (k := 1) (L1 := stA58) (hihA hK) (by kernel_rfl) runA59 (tA156 hK)
theorem tA158 {W : World} (hK : KA W) : TC W 100 vsA57 stA55.st (.tuple #[.int .i64 2, .int .i64 0]) stA153.st := callT_fin Tryz.func100 bdA100 (by kernel_rfl) (n := 17) (by kernel_rfl) (by kernel_rfl) (tA157 hK)
theorem tA163 {W : World} (hK : KA W) : TX W pA74 stA53.act stA53.st .normal stA161 := by
  refine tx_region (by kernel_rfl) ?_
  refine triOps_cut (i := 0) (j := 3) (L1 := stA55) (hihA hK) (by kernel_rfl) runA56 (by kernel_rfl) ?_
  refine triOps_call (i := 3) (f := 100) (fi := #[]) (ca := #[]) (v := .tuple #[.int .i64 2, .int .i64 0]) (L0 := stA55) (Lc := stA153) (L1 := stA159) rfl rfl (by kernel_rfl) (by kernel_rfl) (by kernel_rfl) (by kernel_rfl) (tA158 hK) runA160 ?_
  exact triOps_end (i := 4) (L1 := stA161) (hihA hK) runA162 (by kernel_rfl)
theorem tA166 {W : World} (hK : KA W) : TX W pA139 stA161.act stA161.st .normal stA164 := triX_code (hihA hK) runA165
theorem tA167 {W : World} (hK : KA W) : TX W pA73 stA53.act stA53.st .normal stA164 := tx_seq (by kernel_rfl) (tA163 hK) (tA166 hK)
theorem tA168 {W : World} (hK : KA W) : TX W pA67 stA51.act stA51.st .normal stA164 := triX_hds (k := 2) (L1 := stA53) (hihA hK) (by kernel_rfl) runA54 (tA167 hK)
theorem tA169 {W : World} (hK : KA W) : TX W pA66 stA51.act stA51.st .normal stA164 := tx_through (by kernel_rfl) (by kernel_rfl) (tA168 hK)
theorem tA172 {W : World} (hK : KA W) : TX W pA141 stA164.act stA164.st .normal stA170 := triX_code (hihA hK) runA171
theorem tA173 {W : World} (hK : KA W) : TX W pA65 stA51.act stA51.st .normal stA170 := tx_seq (by kernel_rfl) (tA169 hK) (tA172 hK)
theorem tA174 {W : World} (hK : KA W) : TX W pA64 stA49.act stA49.st .normal stA170 := triX_hds (k := 2) (L1 := stA51) (hihA hK) (by kernel_rfl) runA52 (tA173 hK)
theorem tA177 {W : World} (hK : KA W) : TX W pA64 stA170.act stA170.st (.exit 0) stA175 := triX_code (hihA hK) runA176
theorem tA178 {W : World} (hK : KA W) : TX W pA63 stA49.act stA49.st (.exit 0) stA175 := tx_loop (m := 1) (by kernel_rfl) rfl (.next (tA174 hK) (.last (tA177 hK)))
theorem tA179 {W : World} (hK : KA W) : TX W pA62 stA49.act stA49.st .normal stA175 := tx_block (by kernel_rfl) (tA178 hK)
theorem tA180 {W : World} (hK : KA W) : TX W pA61 stA47.act stA47.st .normal stA175 := triX_hds (k := 1) (L1 := stA49) (hihA hK) (by kernel_rfl) runA50 (tA179 hK)
theorem tA183 {W : World} (hK : KA W) : TF W Tryz.f82 pA142 stA175.act stA175.st (vvA143) stA181.st := triFin_code (hihA hK) runA182
theorem tA184 {W : World} (hK : KA W) : TF W Tryz.f82 pA60 stA47.act stA47.st (vvA143) stA181.st := tf_seq (by kernel_rfl) (tA180 hK) (tA183 hK)
theorem tA185 {W : World} (hK : KA W) : TF W Tryz.f82 cdA82 ({ n := 52, t := PT.ofList 0 (PT.nil 8) vsA46, defers := [] }) stA44.st (vvA143) stA181.st := triFin_hds (k := 4) (L1 := stA47) (hihA hK) (by kernel_rfl) runA48 (tA184 hK)
theorem tA186 {W : World} (hK : KA W) : TC W 82 vsA46 stA44.st (vvA143) stA181.st := callT_fin Tryz.func82 bdA82 (by kernel_rfl) (n := 52) (by kernel_rfl) (by kernel_rfl) (tA185 hK)
theorem tA191 {W : World} (hK : KA W) : TX W pA57 stA42.act stA42.st .normal stA189 := by
  refine tx_region (by kernel_rfl) ?_
  refine triOps_cut (i := 0) (j := 1) (L1 := stA44) (hihA hK) (by kernel_rfl) runA45 (by kernel_rfl) ?_
  refine triOps_call (i := 1) (f := 82) (fi := #[]) (ca := #[]) (v := vvA143) (L0 := stA44) (Lc := stA181) (L1 := stA187) rfl rfl (by kernel_rfl) (by kernel_rfl) (by kernel_rfl) (by kernel_rfl) (tA186 hK) runA188 ?_
  exact triOps_end (i := 2) (L1 := stA189) (hihA hK) runA190 (by kernel_rfl)
theorem tA194 {W : World} (hK : KA W) : TF W Tryz.f59 pA144 stA189.act stA189.st (.tuple #[.int .i64 2, .int .i64 0]) stA192.st := triFin_code (hihA hK) runA193
theorem tA195 {W : World} (hK : KA W) : TF W Tryz.f59 pA56 stA42.act stA42.st (.tuple #[.int .i64 2, .int .i64 0]) stA192.st := tf_seq (by kernel_rfl) (tA191 hK) (tA194 hK)
theorem tA196 {W : World} (hK : KA W) : TF W Tryz.f59 cdA59 ({ n := 30, t := PT.ofList 0 (PT.nil 8) vsA41, defers := [] }) stA39.st (.tuple #[.int .i64 2, .int .i64 0]) stA192.st := triFin_hds (k := 1) (L1 := stA42) (hihA hK) (by kernel_rfl) runA43 (tA195 hK)
theorem tA197 {W : World} (hK : KA W) : TC W 59 vsA41 stA39.st (.tuple #[.int .i64 2, .int .i64 0]) stA192.st := callT_fin Tryz.func59 bdA59 (by kernel_rfl) (n := 30) (by kernel_rfl) (by kernel_rfl) (tA196 hK)
theorem tA202 {W : World} (hK : KA W) : TX W pA55 stA37.act stA37.st .normal stA200 := by
  refine tx_region (by kernel_rfl) ?_
  refine triOps_cut (i := 0) (j := 1) (L1 := stA39) (hihA hK) (by kernel_rfl) runA40 (by kernel_rfl) ?_
  refine triOps_call (i := 1) (f := 59) (fi := #[]) (ca := #[]) (v := .tuple #[.int .i64 2, .int .i64 0]) (L0 := stA39) (Lc := stA192) (L1 := stA198) rfl rfl (by kernel_rfl) (by kernel_rfl) (by kernel_rfl) (by kernel_rfl) (tA197 hK) runA199 ?_
  exact triOps_end (i := 2) (L1 := stA200) (hihA hK) runA201 (by kernel_rfl)
theorem tA205 {W : World} (hK : KA W) : TX W pA145 stA200.act stA200.st .normal stA203 := triX_code (hihA hK) runA204
theorem tA206 {W : World} (hK : KA W) : TX W pA54 stA37.act stA37.st .normal stA203 := tx_seq (by kernel_rfl) (tA202 hK) (tA205 hK)
theorem tA244 {W : World} (hK : KA W) : TF W Tryz.f110 pA117 stA240.act stA240.st (vvA177) stA242.st := triFin_code (hihA hK) runA243
theorem tA245 {W : World} (hK : KA W) : TF W Tryz.f110 cdA110 ({ n := 62, t := PT.ofList 0 (PT.nil 8) vsA239, defers := [] }) stA237.st (vvA177) stA242.st := triFin_hds (k := 3) (L1 := stA240) (hihA hK) (by kernel_rfl) runA241 (tA244 hK)
theorem tA246 {W : World} (hK : KA W) : TC W 110 vsA239 stA237.st (vvA177) stA242.st := callT_fin Tryz.func110 bdA110 (by kernel_rfl) (n := 62) (by kernel_rfl) (by kernel_rfl) (tA245 hK)
theorem tA251 {W : World} (hK : KA W) : TX W pA106 stA235.act stA235.st .normal stA249 := by
  refine tx_region (by kernel_rfl) ?_
  refine triOps_cut (i := 0) (j := 3) (L1 := stA237) (hihA hK) (by kernel_rfl) runA238 (by kernel_rfl) ?_
  refine triOps_call (i := 3) (f := 110) (fi := #[]) (ca := #[]) (v := vvA177) (L0 := stA237) (Lc := stA242) (L1 := stA247) rfl rfl (by kernel_rfl) (by kernel_rfl) (by kernel_rfl) (by kernel_rfl) (tA246 hK) runA248 ?_
  exact triOps_end (i := 4) (L1 := stA249) (hihA hK) runA250 (by kernel_rfl)
theorem tA254 {W : World} (hK : KA W) : TX W pA124 stA249.act stA249.st .normal stA252 := triX_code (hihA hK) runA253
theorem tA255 {W : World} (hK : KA W) : TX W pA105 stA235.act stA235.st .normal stA252 := tx_seq (by kernel_rfl) (tA251 hK) (tA254 hK)
theorem tA256 {W : World} (hK : KA W) : TX W pA104 stA233.act stA233.st .normal stA252 := triX_hds (k := 1) (L1 := stA235) (hihA hK) (by kernel_rfl) runA236 (tA255 hK)
theorem tA257 {W : World} (hK : KA W) : TX W pA103 stA233.act stA233.st .normal stA252 := tx_through (by kernel_rfl) (by kernel_rfl) (tA256 hK)
theorem tA260 {W : World} (hK : KA W) : TX W pA125 stA252.act stA252.st .normal stA258 := triX_code (hihA hK) runA259
theorem tA261 {W : World} (hK : KA W) : TX W pA102 stA233.act stA233.st .normal stA258 := tx_seq (by kernel_rfl) (tA257 hK) (tA260 hK)
theorem tA262 {W : World} (hK : KA W) : TX W pA101 stA231.act stA231.st .normal stA258 := triX_hds (k := 2) (L1 := stA233) (hihA hK) (by kernel_rfl) runA234 (tA261 hK)
theorem tA265 {W : World} (hK : KA W) : TX W pA101 stA258.act stA258.st (.exit 0) stA263 := triX_code (hihA hK) runA264
theorem tA266 {W : World} (hK : KA W) : TX W pA100 stA231.act stA231.st (.exit 0) stA263 := tx_loop (m := 1) (by kernel_rfl) rfl (.next (tA262 hK) (.last (tA265 hK)))
theorem tA267 {W : World} (hK : KA W) : TX W pA99 stA231.act stA231.st .normal stA263 := tx_block (by kernel_rfl) (tA266 hK)
theorem tA268 {W : World} (hK : KA W) : TX W pA98 stA229.act stA229.st .normal stA263 := triX_hds (k := 1) (L1 := stA231) (hihA hK) (by kernel_rfl) runA232 (tA267 hK)
theorem tA271 {W : World} (hK : KA W) : TF W Tryz.f88 pA126 stA263.act stA263.st (vvA183) stA269.st := triFin_code (hihA hK) runA270
theorem tA272 {W : World} (hK : KA W) : TF W Tryz.f88 pA97 stA229.act stA229.st (vvA183) stA269.st := tf_seq (by kernel_rfl) (tA268 hK) (tA271 hK)
theorem tA273 {W : World} (hK : KA W) : TF W Tryz.f88 cdA88 ({ n := 89, t := PT.ofList 0 (PT.nil 8) vsA228, defers := [] }) stA226.st (vvA183) stA269.st := triFin_hds (k := 7) (L1 := stA229) (hihA hK) (by kernel_rfl) runA230 (tA272 hK)
theorem tA274 {W : World} (hK : KA W) : TC W 88 vsA228 stA226.st (vvA183) stA269.st := callT_fin Tryz.func88 bdA88 (by kernel_rfl) (n := 89) (by kernel_rfl) (by kernel_rfl) (tA273 hK)
theorem tA279 {W : World} (hK : KA W) : TX W pA88 stA224.act stA224.st .normal stA277 := by
  refine tx_region (by kernel_rfl) ?_
  refine triOps_cut (i := 0) (j := 3) (L1 := stA226) (hihA hK) (by kernel_rfl) runA227 (by kernel_rfl) ?_
  refine triOps_call (i := 3) (f := 88) (fi := #[]) (ca := #[]) (v := vvA183) (L0 := stA226) (Lc := stA269) (L1 := stA275) rfl rfl (by kernel_rfl) (by kernel_rfl) (by kernel_rfl) (by kernel_rfl) (tA274 hK) runA276 ?_
  exact triOps_end (i := 4) (L1 := stA277) (hihA hK) runA278 (by kernel_rfl)
theorem tA282 {W : World} (hK : KA W) : TX W pA133 stA277.act stA277.st .normal stA280 := triX_code (hihA hK) runA281
theorem tA283 {W : World} (hK : KA W) : TX W pA87 stA224.act stA224.st .normal stA280 := tx_seq (by kernel_rfl) (tA279 hK) (tA282 hK)
theorem tA284 {W : World} (hK : KA W) : TX W pA86 stA222.act stA222.st .normal stA280 := triX_hds (k := 1) (L1 := stA224) (hihA hK) (by kernel_rfl) runA225 (tA283 hK)
theorem tA285 {W : World} (hK : KA W) : TX W pA85 stA222.act stA222.st .normal stA280 := tx_through (by kernel_rfl) (by kernel_rfl) (tA284 hK)
theorem tA288 {W : World} (hK : KA W) : TX W pA135 stA280.act stA280.st .normal stA286 := triX_code (hihA hK) runA287
theorem tA289 {W : World} (hK : KA W) : TX W pA84 stA222.act stA222.st .normal stA286 := tx_seq (by kernel_rfl) (tA285 hK) (tA288 hK)
theorem tA290 {W : World} (hK : KA W) : TX W pA83 stA220.act stA220.st .normal stA286 := triX_hds (k := 2) (L1 := stA222) (hihA hK) (by kernel_rfl) runA223 (tA289 hK)
theorem tA293 {W : World} (hK : KA W) : TX W pA83 stA286.act stA286.st (.exit 0) stA291 := triX_code (hihA hK) runA292
theorem tA294 {W : World} (hK : KA W) : TX W pA82 stA220.act stA220.st (.exit 0) stA291 := tx_loop (m := 1) (by kernel_rfl) rfl (.next (tA290 hK) (.last (tA293 hK)))
theorem tA295 {W : World} (hK : KA W) : TX W pA81 stA220.act stA220.st .normal stA291 := tx_block (by kernel_rfl) (tA294 hK)
theorem tA296 {W : World} (hK : KA W) : TX W pA80 stA218.act stA218.st .normal stA291 := triX_hds (k := 1) (L1 := stA220) (hihA hK) (by kernel_rfl) runA221 (tA295 hK)
theorem tA299 {W : World} (hK : KA W) : TF W Tryz.f62 pA136 stA291.act stA291.st (vvA185) stA297.st := triFin_code (hihA hK) runA298
theorem tA300 {W : World} (hK : KA W) : TF W Tryz.f62 pA79 stA218.act stA218.st (vvA185) stA297.st := tf_seq (by kernel_rfl) (tA296 hK) (tA299 hK)
theorem tA301 {W : World} (hK : KA W) : TF W Tryz.f62 cdA62 ({ n := 46, t := PT.ofList 0 (PT.nil 8) vsA217, defers := [] }) stA215.st (vvA185) stA297.st := triFin_hds (k := 4) (L1 := stA218) (hihA hK) (by kernel_rfl) runA219 (tA300 hK)
theorem tA302 {W : World} (hK : KA W) : TC W 62 vsA217 stA215.st (vvA185) stA297.st := callT_fin Tryz.func62 bdA62 (by kernel_rfl) (n := 46) (by kernel_rfl) (by kernel_rfl) (tA301 hK)
theorem tA307 {W : World} (hK : KA W) : TX W pA160 stA213.act stA213.st .normal stA305 := by
  refine tx_region (by kernel_rfl) ?_
  refine triOps_cut (i := 0) (j := 5) (L1 := stA215) (hihA hK) (by kernel_rfl) runA216 (by kernel_rfl) ?_
  refine triOps_call (i := 5) (f := 62) (fi := #[]) (ca := #[]) (v := vvA185) (L0 := stA215) (Lc := stA297) (L1 := stA303) rfl rfl (by kernel_rfl) (by kernel_rfl) (by kernel_rfl) (by kernel_rfl) (tA302 hK) runA304 ?_
  exact triOps_end (i := 6) (L1 := stA305) (hihA hK) runA306 (by kernel_rfl)
theorem tA308 {W : World} (hK : KA W) : TX W pA156 stA211.act stA211.st .normal stA305 := triX_hds (k := 2) (L1 := stA213) (hihA hK) (by kernel_rfl) runA214 (tA307 hK)
theorem tA309 {W : World} (hK : KA W) : TX W pA155 stA211.act stA211.st .normal stA305 := tx_through (by kernel_rfl) (by kernel_rfl) (tA308 hK)
theorem tA312 {W : World} (hK : KA W) : TX W pA187 stA305.act stA305.st .normal stA310 := triX_code (hihA hK) runA311
theorem tA313 {W : World} (hK : KA W) : TX W pA154 stA211.act stA211.st .normal stA310 := tx_seq (by kernel_rfl) (tA309 hK) (tA312 hK)
theorem tA314 {W : World} (hK : KA W) : TX W pA153 stA209.act stA209.st .normal stA310 := triX_hds (k := 2) (L1 := stA211) (hihA hK) (by kernel_rfl) runA212 (tA313 hK)
theorem tA317 {W : World} (hK : KA W) : TX W pA153 stA310.act stA310.st (.exit 0) stA315 := triX_code (hihA hK) runA316
theorem tA318 {W : World} (hK : KA W) : TX W pA152 stA209.act stA209.st (.exit 0) stA315 := tx_loop (m := 1) (by kernel_rfl) rfl (.next (tA314 hK) (.last (tA317 hK)))
theorem tA319 {W : World} (hK : KA W) : TX W pA151 stA209.act stA209.st .normal stA315 := tx_block (by kernel_rfl) (tA318 hK)
theorem tA320 {W : World} (hK : KA W) : TX W pA150 stA207.act stA207.st .normal stA315 := triX_hds (k := 1) (L1 := stA209) (hihA hK) (by kernel_rfl) runA210 (tA319 hK)
theorem tA323 {W : World} (hK : KA W) : TF W Tryz.f44 pA188 stA315.act stA315.st (vvA192) stA321.st := triFin_code (hihA hK) runA322
theorem tA324 {W : World} (hK : KA W) : TF W Tryz.f44 pA149 stA207.act stA207.st (vvA192) stA321.st := tf_seq (by kernel_rfl) (tA320 hK) (tA323 hK)
theorem tA325 {W : World} (hK : KA W) : TF W Tryz.f44 pA146 stA203.act stA203.st (vvA192) stA321.st := triFin_hds (k := 2) (L1 := stA207) (hihA hK) (by kernel_rfl) runA208 (tA324 hK)
theorem tA326 {W : World} (hK : KA W) : TF W Tryz.f44 pA53 stA37.act stA37.st (vvA192) stA321.st := tf_seq (by kernel_rfl) (tA206 hK) (tA325 hK)
theorem tA327 {W : World} (hK : KA W) : TF W Tryz.f44 cdA44 ({ n := 66, t := PT.ofList 0 (PT.nil 8) vsA36, defers := [] }) stA34.st (vvA192) stA321.st := triFin_hds (k := 1) (L1 := stA37) (hihA hK) (by kernel_rfl) runA38 (tA326 hK)
theorem tA328 {W : World} (hK : KA W) : TC W 44 vsA36 stA34.st (vvA192) stA321.st := callT_fin Tryz.func44 bdA44 (by kernel_rfl) (n := 66) (by kernel_rfl) (by kernel_rfl) (tA327 hK)
theorem tA333 {W : World} (hK : KA W) : TX W pA52 stA32.act stA32.st .normal stA331 := by
  refine tx_region (by kernel_rfl) ?_
  refine triOps_cut (i := 0) (j := 1) (L1 := stA34) (hihA hK) (by kernel_rfl) runA35 (by kernel_rfl) ?_
  refine triOps_call (i := 1) (f := 44) (fi := #[]) (ca := #[]) (v := vvA192) (L0 := stA34) (Lc := stA321) (L1 := stA329) rfl rfl (by kernel_rfl) (by kernel_rfl) (by kernel_rfl) (by kernel_rfl) (tA328 hK) runA330 ?_
  exact triOps_end (i := 2) (L1 := stA331) (hihA hK) runA332 (by kernel_rfl)
theorem tA336 {W : World} (hK : KA W) : TF W Tryz.f57 pA193 stA331.act stA331.st (vvA195) stA334.st := triFin_code (hihA hK) runA335
theorem tA337 {W : World} (hK : KA W) : TF W Tryz.f57 pA51 stA32.act stA32.st (vvA195) stA334.st := tf_seq (by kernel_rfl) (tA333 hK) (tA336 hK)
theorem tA338 {W : World} (hK : KA W) : TF W Tryz.f57 cdA57 ({ n := 42, t := PT.ofList 0 (PT.nil 8) vsA31, defers := [] }) stA29.st (vvA195) stA334.st := triFin_hds (k := 1) (L1 := stA32) (hihA hK) (by kernel_rfl) runA33 (tA337 hK)
theorem tA339 {W : World} (hK : KA W) : TC W 57 vsA31 stA29.st (vvA195) stA334.st := callT_fin Tryz.func57 bdA57 (by kernel_rfl) (n := 42) (by kernel_rfl) (by kernel_rfl) (tA338 hK)
theorem tA344 {W : World} (hK : KA W) : TX W pA50 stA27.act stA27.st .normal stA342 := by
  refine tx_region (by kernel_rfl) ?_
  refine triOps_cut (i := 0) (j := 1) (L1 := stA29) (hihA hK) (by kernel_rfl) runA30 (by kernel_rfl) ?_
  refine triOps_call (i := 1) (f := 57) (fi := #[]) (ca := #[]) (v := vvA195) (L0 := stA29) (Lc := stA334) (L1 := stA340) rfl rfl (by kernel_rfl) (by kernel_rfl) (by kernel_rfl) (by kernel_rfl) (tA339 hK) runA341 ?_
  exact triOps_end (i := 2) (L1 := stA342) (hihA hK) runA343 (by kernel_rfl)
theorem tA347 {W : World} (hK : KA W) : TF W Tryz.f43 pA196 stA342.act stA342.st (vvA198) stA345.st := triFin_code (hihA hK) runA346
theorem tA348 {W : World} (hK : KA W) : TF W Tryz.f43 pA49 stA27.act stA27.st (vvA198) stA345.st := tf_seq (by kernel_rfl) (tA344 hK) (tA347 hK)
theorem tA349 {W : World} (hK : KA W) : TF W Tryz.f43 cdA43 ({ n := 45, t := PT.ofList 0 (PT.nil 8) vsA26, defers := [] }) stA24.st (vvA198) stA345.st := triFin_hds (k := 1) (L1 := stA27) (hihA hK) (by kernel_rfl) runA28 (tA348 hK)
theorem tA350 {W : World} (hK : KA W) : TC W 43 vsA26 stA24.st (vvA198) stA345.st := callT_fin Tryz.func43 bdA43 (by kernel_rfl) (n := 45) (by kernel_rfl) (by kernel_rfl) (tA349 hK)
theorem tA355 {W : World} (hK : KA W) : TX W pA48 stA22.act stA22.st .normal stA353 := by
  refine tx_region (by kernel_rfl) ?_
  refine triOps_cut (i := 0) (j := 1) (L1 := stA24) (hihA hK) (by kernel_rfl) runA25 (by kernel_rfl) ?_
  refine triOps_call (i := 1) (f := 43) (fi := #[]) (ca := #[]) (v := vvA198) (L0 := stA24) (Lc := stA345) (L1 := stA351) rfl rfl (by kernel_rfl) (by kernel_rfl) (by kernel_rfl) (by kernel_rfl) (tA350 hK) runA352 ?_
  exact triOps_end (i := 2) (L1 := stA353) (hihA hK) runA354 (by kernel_rfl)
theorem tA413 {W : World} (hK : KA W) : TF W Tryz.f110 pA117 stA409.act stA409.st (vvA222) stA411.st := triFin_code (hihA hK) runA412
theorem tA414 {W : World} (hK : KA W) : TF W Tryz.f110 cdA110 ({ n := 62, t := PT.ofList 0 (PT.nil 8) vsA408, defers := [] }) stA406.st (vvA222) stA411.st := triFin_hds (k := 3) (L1 := stA409) (hihA hK) (by kernel_rfl) runA410 (tA413 hK)
theorem tA415 {W : World} (hK : KA W) : TC W 110 vsA408 stA406.st (vvA222) stA411.st := callT_fin Tryz.func110 bdA110 (by kernel_rfl) (n := 62) (by kernel_rfl) (by kernel_rfl) (tA414 hK)
theorem tA420 {W : World} (hK : KA W) : TX W pA106 stA404.act stA404.st .normal stA418 := by
  refine tx_region (by kernel_rfl) ?_
  refine triOps_cut (i := 0) (j := 3) (L1 := stA406) (hihA hK) (by kernel_rfl) runA407 (by kernel_rfl) ?_
  refine triOps_call (i := 3) (f := 110) (fi := #[]) (ca := #[]) (v := vvA222) (L0 := stA406) (Lc := stA411) (L1 := stA416) rfl rfl (by kernel_rfl) (by kernel_rfl) (by kernel_rfl) (by kernel_rfl) (tA415 hK) runA417 ?_
  exact triOps_end (i := 4) (L1 := stA418) (hihA hK) runA419 (by kernel_rfl)
theorem tA423 {W : World} (hK : KA W) : TX W pA124 stA418.act stA418.st .normal stA421 := triX_code (hihA hK) runA422
theorem tA424 {W : World} (hK : KA W) : TX W pA105 stA404.act stA404.st .normal stA421 := tx_seq (by kernel_rfl) (tA420 hK) (tA423 hK)
theorem tA425 {W : World} (hK : KA W) : TX W pA104 stA402.act stA402.st .normal stA421 := triX_hds (k := 1) (L1 := stA404) (hihA hK) (by kernel_rfl) runA405 (tA424 hK)
theorem tA426 {W : World} (hK : KA W) : TX W pA103 stA402.act stA402.st .normal stA421 := tx_through (by kernel_rfl) (by kernel_rfl) (tA425 hK)
theorem tA429 {W : World} (hK : KA W) : TX W pA125 stA421.act stA421.st .normal stA427 := triX_code (hihA hK) runA428
theorem tA430 {W : World} (hK : KA W) : TX W pA102 stA402.act stA402.st .normal stA427 := tx_seq (by kernel_rfl) (tA426 hK) (tA429 hK)
theorem tA431 {W : World} (hK : KA W) : TX W pA101 stA400.act stA400.st .normal stA427 := triX_hds (k := 2) (L1 := stA402) (hihA hK) (by kernel_rfl) runA403 (tA430 hK)
theorem tA434 {W : World} (hK : KA W) : TX W pA101 stA427.act stA427.st (.exit 0) stA432 := triX_code (hihA hK) runA433
theorem tA435 {W : World} (hK : KA W) : TX W pA100 stA400.act stA400.st (.exit 0) stA432 := tx_loop (m := 1) (by kernel_rfl) rfl (.next (tA431 hK) (.last (tA434 hK)))
theorem tA436 {W : World} (hK : KA W) : TX W pA99 stA400.act stA400.st .normal stA432 := tx_block (by kernel_rfl) (tA435 hK)
theorem tA437 {W : World} (hK : KA W) : TX W pA98 stA398.act stA398.st .normal stA432 := triX_hds (k := 1) (L1 := stA400) (hihA hK) (by kernel_rfl) runA401 (tA436 hK)
theorem tA440 {W : World} (hK : KA W) : TF W Tryz.f88 pA126 stA432.act stA432.st (vvA228) stA438.st := triFin_code (hihA hK) runA439
theorem tA441 {W : World} (hK : KA W) : TF W Tryz.f88 pA97 stA398.act stA398.st (vvA228) stA438.st := tf_seq (by kernel_rfl) (tA437 hK) (tA440 hK)
theorem tA442 {W : World} (hK : KA W) : TF W Tryz.f88 cdA88 ({ n := 89, t := PT.ofList 0 (PT.nil 8) vsA397, defers := [] }) stA395.st (vvA228) stA438.st := triFin_hds (k := 7) (L1 := stA398) (hihA hK) (by kernel_rfl) runA399 (tA441 hK)
theorem tA443 {W : World} (hK : KA W) : TC W 88 vsA397 stA395.st (vvA228) stA438.st := callT_fin Tryz.func88 bdA88 (by kernel_rfl) (n := 89) (by kernel_rfl) (by kernel_rfl) (tA442 hK)
theorem tA448 {W : World} (hK : KA W) : TX W pA88 stA393.act stA393.st .normal stA446 := by
  refine tx_region (by kernel_rfl) ?_
  refine triOps_cut (i := 0) (j := 3) (L1 := stA395) (hihA hK) (by kernel_rfl) runA396 (by kernel_rfl) ?_
  refine triOps_call (i := 3) (f := 88) (fi := #[]) (ca := #[]) (v := vvA228) (L0 := stA395) (Lc := stA438) (L1 := stA444) rfl rfl (by kernel_rfl) (by kernel_rfl) (by kernel_rfl) (by kernel_rfl) (tA443 hK) runA445 ?_
  exact triOps_end (i := 4) (L1 := stA446) (hihA hK) runA447 (by kernel_rfl)
theorem tA451 {W : World} (hK : KA W) : TX W pA133 stA446.act stA446.st .normal stA449 := triX_code (hihA hK) runA450
theorem tA452 {W : World} (hK : KA W) : TX W pA87 stA393.act stA393.st .normal stA449 := tx_seq (by kernel_rfl) (tA448 hK) (tA451 hK)
theorem tA453 {W : World} (hK : KA W) : TX W pA86 stA391.act stA391.st .normal stA449 := triX_hds (k := 1) (L1 := stA393) (hihA hK) (by kernel_rfl) runA394 (tA452 hK)
theorem tA454 {W : World} (hK : KA W) : TX W pA85 stA391.act stA391.st .normal stA449 := tx_through (by kernel_rfl) (by kernel_rfl) (tA453 hK)
theorem tA457 {W : World} (hK : KA W) : TX W pA135 stA449.act stA449.st .normal stA455 := triX_code (hihA hK) runA456
theorem tA458 {W : World} (hK : KA W) : TX W pA84 stA391.act stA391.st .normal stA455 := tx_seq (by kernel_rfl) (tA454 hK) (tA457 hK)
theorem tA459 {W : World} (hK : KA W) : TX W pA83 stA389.act stA389.st .normal stA455 := triX_hds (k := 2) (L1 := stA391) (hihA hK) (by kernel_rfl) runA392 (tA458 hK)
theorem tA462 {W : World} (hK : KA W) : TX W pA83 stA455.act stA455.st (.exit 0) stA460 := triX_code (hihA hK) runA461
theorem tA463 {W : World} (hK : KA W) : TX W pA82 stA389.act stA389.st (.exit 0) stA460 := tx_loop (m := 1) (by kernel_rfl) rfl (.next (tA459 hK) (.last (tA462 hK)))
theorem tA464 {W : World} (hK : KA W) : TX W pA81 stA389.act stA389.st .normal stA460 := tx_block (by kernel_rfl) (tA463 hK)
theorem tA465 {W : World} (hK : KA W) : TX W pA80 stA387.act stA387.st .normal stA460 := triX_hds (k := 1) (L1 := stA389) (hihA hK) (by kernel_rfl) runA390 (tA464 hK)
theorem tA468 {W : World} (hK : KA W) : TF W Tryz.f62 pA136 stA460.act stA460.st (vvA230) stA466.st := triFin_code (hihA hK) runA467
theorem tA469 {W : World} (hK : KA W) : TF W Tryz.f62 pA79 stA387.act stA387.st (vvA230) stA466.st := tf_seq (by kernel_rfl) (tA465 hK) (tA468 hK)
theorem tA470 {W : World} (hK : KA W) : TF W Tryz.f62 cdA62 ({ n := 46, t := PT.ofList 0 (PT.nil 8) vsA386, defers := [] }) stA384.st (vvA230) stA466.st := triFin_hds (k := 4) (L1 := stA387) (hihA hK) (by kernel_rfl) runA388 (tA469 hK)
theorem tA471 {W : World} (hK : KA W) : TC W 62 vsA386 stA384.st (vvA230) stA466.st := callT_fin Tryz.func62 bdA62 (by kernel_rfl) (n := 46) (by kernel_rfl) (by kernel_rfl) (tA470 hK)
theorem tA476 {W : World} (hK : KA W) : TX W pA78 stA382.act stA382.st .normal stA474 := by
  refine tx_region (by kernel_rfl) ?_
  refine triOps_cut (i := 0) (j := 2) (L1 := stA384) (hihA hK) (by kernel_rfl) runA385 (by kernel_rfl) ?_
  refine triOps_call (i := 2) (f := 62) (fi := #[]) (ca := #[]) (v := vvA230) (L0 := stA384) (Lc := stA466) (L1 := stA472) rfl rfl (by kernel_rfl) (by kernel_rfl) (by kernel_rfl) (by kernel_rfl) (tA471 hK) runA473 ?_
  exact triOps_end (i := 3) (L1 := stA474) (hihA hK) runA475 (by kernel_rfl)
theorem tA479 {W : World} (hK : KA W) : TF W Tryz.f100 pA138 stA474.act stA474.st (.tuple #[.int .i64 2, .int .i64 0]) stA477.st := triFin_code (hihA hK) runA478
theorem tA480 {W : World} (hK : KA W) : TF W Tryz.f100 pA77 stA382.act stA382.st (.tuple #[.int .i64 2, .int .i64 0]) stA477.st := tf_seq (by kernel_rfl) (tA476 hK) (tA479 hK)
theorem tA481 {W : World} (hK : KA W) : TF W Tryz.f100 cdA100 ({ n := 17, t := PT.ofList 0 (PT.nil 8) vsA381, defers := [] }) stA379.st (.tuple #[.int .i64 2, .int .i64 0]) stA477.st := triFin_hds (k := 1) (L1 := stA382) (hihA hK) (by kernel_rfl) runA383 (tA480 hK)
theorem tA482 {W : World} (hK : KA W) : TC W 100 vsA381 stA379.st (.tuple #[.int .i64 2, .int .i64 0]) stA477.st := callT_fin Tryz.func100 bdA100 (by kernel_rfl) (n := 17) (by kernel_rfl) (by kernel_rfl) (tA481 hK)
theorem tA487 {W : World} (hK : KA W) : TX W pA74 stA377.act stA377.st .normal stA485 := by
  refine tx_region (by kernel_rfl) ?_
  refine triOps_cut (i := 0) (j := 3) (L1 := stA379) (hihA hK) (by kernel_rfl) runA380 (by kernel_rfl) ?_
  refine triOps_call (i := 3) (f := 100) (fi := #[]) (ca := #[]) (v := .tuple #[.int .i64 2, .int .i64 0]) (L0 := stA379) (Lc := stA477) (L1 := stA483) rfl rfl (by kernel_rfl) (by kernel_rfl) (by kernel_rfl) (by kernel_rfl) (tA482 hK) runA484 ?_
  exact triOps_end (i := 4) (L1 := stA485) (hihA hK) runA486 (by kernel_rfl)
theorem tA490 {W : World} (hK : KA W) : TX W pA139 stA485.act stA485.st .normal stA488 := triX_code (hihA hK) runA489
theorem tA491 {W : World} (hK : KA W) : TX W pA73 stA377.act stA377.st .normal stA488 := tx_seq (by kernel_rfl) (tA487 hK) (tA490 hK)
theorem tA492 {W : World} (hK : KA W) : TX W pA67 stA375.act stA375.st .normal stA488 := triX_hds (k := 2) (L1 := stA377) (hihA hK) (by kernel_rfl) runA378 (tA491 hK)
theorem tA493 {W : World} (hK : KA W) : TX W pA66 stA375.act stA375.st .normal stA488 := tx_through (by kernel_rfl) (by kernel_rfl) (tA492 hK)
theorem tA496 {W : World} (hK : KA W) : TX W pA141 stA488.act stA488.st .normal stA494 := triX_code (hihA hK) runA495
theorem tA497 {W : World} (hK : KA W) : TX W pA65 stA375.act stA375.st .normal stA494 := tx_seq (by kernel_rfl) (tA493 hK) (tA496 hK)
theorem tA498 {W : World} (hK : KA W) : TX W pA64 stA373.act stA373.st .normal stA494 := triX_hds (k := 2) (L1 := stA375) (hihA hK) (by kernel_rfl) runA376 (tA497 hK)
theorem tA501 {W : World} (hK : KA W) : TX W pA64 stA494.act stA494.st (.exit 0) stA499 := triX_code (hihA hK) runA500
theorem tA502 {W : World} (hK : KA W) : TX W pA63 stA373.act stA373.st (.exit 0) stA499 := tx_loop (m := 1) (by kernel_rfl) rfl (.next (tA498 hK) (.last (tA501 hK)))
theorem tA503 {W : World} (hK : KA W) : TX W pA62 stA373.act stA373.st .normal stA499 := tx_block (by kernel_rfl) (tA502 hK)
theorem tA504 {W : World} (hK : KA W) : TX W pA61 stA371.act stA371.st .normal stA499 := triX_hds (k := 1) (L1 := stA373) (hihA hK) (by kernel_rfl) runA374 (tA503 hK)
theorem tA507 {W : World} (hK : KA W) : TF W Tryz.f82 pA142 stA499.act stA499.st (vvA231) stA505.st := triFin_code (hihA hK) runA506
theorem tA508 {W : World} (hK : KA W) : TF W Tryz.f82 pA60 stA371.act stA371.st (vvA231) stA505.st := tf_seq (by kernel_rfl) (tA504 hK) (tA507 hK)
theorem tA509 {W : World} (hK : KA W) : TF W Tryz.f82 cdA82 ({ n := 52, t := PT.ofList 0 (PT.nil 8) vsA370, defers := [] }) stA368.st (vvA231) stA505.st := triFin_hds (k := 4) (L1 := stA371) (hihA hK) (by kernel_rfl) runA372 (tA508 hK)
theorem tA510 {W : World} (hK : KA W) : TC W 82 vsA370 stA368.st (vvA231) stA505.st := callT_fin Tryz.func82 bdA82 (by kernel_rfl) (n := 52) (by kernel_rfl) (by kernel_rfl) (tA509 hK)
theorem tA515 {W : World} (hK : KA W) : TX W pA57 stA366.act stA366.st .normal stA513 := by
  refine tx_region (by kernel_rfl) ?_
  refine triOps_cut (i := 0) (j := 1) (L1 := stA368) (hihA hK) (by kernel_rfl) runA369 (by kernel_rfl) ?_
  refine triOps_call (i := 1) (f := 82) (fi := #[]) (ca := #[]) (v := vvA231) (L0 := stA368) (Lc := stA505) (L1 := stA511) rfl rfl (by kernel_rfl) (by kernel_rfl) (by kernel_rfl) (by kernel_rfl) (tA510 hK) runA512 ?_
  exact triOps_end (i := 2) (L1 := stA513) (hihA hK) runA514 (by kernel_rfl)
theorem tA518 {W : World} (hK : KA W) : TF W Tryz.f59 pA144 stA513.act stA513.st (.tuple #[.int .i64 2, .int .i64 0]) stA516.st := triFin_code (hihA hK) runA517
theorem tA519 {W : World} (hK : KA W) : TF W Tryz.f59 pA56 stA366.act stA366.st (.tuple #[.int .i64 2, .int .i64 0]) stA516.st := tf_seq (by kernel_rfl) (tA515 hK) (tA518 hK)
theorem tA520 {W : World} (hK : KA W) : TF W Tryz.f59 cdA59 ({ n := 30, t := PT.ofList 0 (PT.nil 8) vsA365, defers := [] }) stA363.st (.tuple #[.int .i64 2, .int .i64 0]) stA516.st := triFin_hds (k := 1) (L1 := stA366) (hihA hK) (by kernel_rfl) runA367 (tA519 hK)
theorem tA521 {W : World} (hK : KA W) : TC W 59 vsA365 stA363.st (.tuple #[.int .i64 2, .int .i64 0]) stA516.st := callT_fin Tryz.func59 bdA59 (by kernel_rfl) (n := 30) (by kernel_rfl) (by kernel_rfl) (tA520 hK)
theorem tA526 {W : World} (hK : KA W) : TX W pA55 stA361.act stA361.st .normal stA524 := by
  refine tx_region (by kernel_rfl) ?_
  refine triOps_cut (i := 0) (j := 1) (L1 := stA363) (hihA hK) (by kernel_rfl) runA364 (by kernel_rfl) ?_
  refine triOps_call (i := 1) (f := 59) (fi := #[]) (ca := #[]) (v := .tuple #[.int .i64 2, .int .i64 0]) (L0 := stA363) (Lc := stA516) (L1 := stA522) rfl rfl (by kernel_rfl) (by kernel_rfl) (by kernel_rfl) (by kernel_rfl) (tA521 hK) runA523 ?_
  exact triOps_end (i := 2) (L1 := stA524) (hihA hK) runA525 (by kernel_rfl)
theorem tA529 {W : World} (hK : KA W) : TX W pA145 stA524.act stA524.st .normal stA527 := triX_code (hihA hK) runA528
theorem tA530 {W : World} (hK : KA W) : TX W pA54 stA361.act stA361.st .normal stA527 := tx_seq (by kernel_rfl) (tA526 hK) (tA529 hK)
theorem tA568 {W : World} (hK : KA W) : TF W Tryz.f110 pA117 stA564.act stA564.st (vvA252) stA566.st := triFin_code (hihA hK) runA567
theorem tA569 {W : World} (hK : KA W) : TF W Tryz.f110 cdA110 ({ n := 62, t := PT.ofList 0 (PT.nil 8) vsA563, defers := [] }) stA561.st (vvA252) stA566.st := triFin_hds (k := 3) (L1 := stA564) (hihA hK) (by kernel_rfl) runA565 (tA568 hK)
theorem tA570 {W : World} (hK : KA W) : TC W 110 vsA563 stA561.st (vvA252) stA566.st := callT_fin Tryz.func110 bdA110 (by kernel_rfl) (n := 62) (by kernel_rfl) (by kernel_rfl) (tA569 hK)
theorem tA575 {W : World} (hK : KA W) : TX W pA106 stA559.act stA559.st .normal stA573 := by
  refine tx_region (by kernel_rfl) ?_
  refine triOps_cut (i := 0) (j := 3) (L1 := stA561) (hihA hK) (by kernel_rfl) runA562 (by kernel_rfl) ?_
  refine triOps_call (i := 3) (f := 110) (fi := #[]) (ca := #[]) (v := vvA252) (L0 := stA561) (Lc := stA566) (L1 := stA571) rfl rfl (by kernel_rfl) (by kernel_rfl) (by kernel_rfl) (by kernel_rfl) (tA570 hK) runA572 ?_
  exact triOps_end (i := 4) (L1 := stA573) (hihA hK) runA574 (by kernel_rfl)
theorem tA578 {W : World} (hK : KA W) : TX W pA124 stA573.act stA573.st .normal stA576 := triX_code (hihA hK) runA577
theorem tA579 {W : World} (hK : KA W) : TX W pA105 stA559.act stA559.st .normal stA576 := tx_seq (by kernel_rfl) (tA575 hK) (tA578 hK)
theorem tA580 {W : World} (hK : KA W) : TX W pA104 stA557.act stA557.st .normal stA576 := triX_hds (k := 1) (L1 := stA559) (hihA hK) (by kernel_rfl) runA560 (tA579 hK)
theorem tA581 {W : World} (hK : KA W) : TX W pA103 stA557.act stA557.st .normal stA576 := tx_through (by kernel_rfl) (by kernel_rfl) (tA580 hK)
theorem tA584 {W : World} (hK : KA W) : TX W pA125 stA576.act stA576.st .normal stA582 := triX_code (hihA hK) runA583
theorem tA585 {W : World} (hK : KA W) : TX W pA102 stA557.act stA557.st .normal stA582 := tx_seq (by kernel_rfl) (tA581 hK) (tA584 hK)
theorem tA586 {W : World} (hK : KA W) : TX W pA101 stA555.act stA555.st .normal stA582 := triX_hds (k := 2) (L1 := stA557) (hihA hK) (by kernel_rfl) runA558 (tA585 hK)
theorem tA589 {W : World} (hK : KA W) : TX W pA101 stA582.act stA582.st (.exit 0) stA587 := triX_code (hihA hK) runA588
theorem tA590 {W : World} (hK : KA W) : TX W pA100 stA555.act stA555.st (.exit 0) stA587 := tx_loop (m := 1) (by kernel_rfl) rfl (.next (tA586 hK) (.last (tA589 hK)))
theorem tA591 {W : World} (hK : KA W) : TX W pA99 stA555.act stA555.st .normal stA587 := tx_block (by kernel_rfl) (tA590 hK)
theorem tA592 {W : World} (hK : KA W) : TX W pA98 stA553.act stA553.st .normal stA587 := triX_hds (k := 1) (L1 := stA555) (hihA hK) (by kernel_rfl) runA556 (tA591 hK)
theorem tA595 {W : World} (hK : KA W) : TF W Tryz.f88 pA126 stA587.act stA587.st (vvA258) stA593.st := triFin_code (hihA hK) runA594
theorem tA596 {W : World} (hK : KA W) : TF W Tryz.f88 pA97 stA553.act stA553.st (vvA258) stA593.st := tf_seq (by kernel_rfl) (tA592 hK) (tA595 hK)
theorem tA597 {W : World} (hK : KA W) : TF W Tryz.f88 cdA88 ({ n := 89, t := PT.ofList 0 (PT.nil 8) vsA552, defers := [] }) stA550.st (vvA258) stA593.st := triFin_hds (k := 7) (L1 := stA553) (hihA hK) (by kernel_rfl) runA554 (tA596 hK)
theorem tA598 {W : World} (hK : KA W) : TC W 88 vsA552 stA550.st (vvA258) stA593.st := callT_fin Tryz.func88 bdA88 (by kernel_rfl) (n := 89) (by kernel_rfl) (by kernel_rfl) (tA597 hK)
theorem tA603 {W : World} (hK : KA W) : TX W pA88 stA548.act stA548.st .normal stA601 := by
  refine tx_region (by kernel_rfl) ?_
  refine triOps_cut (i := 0) (j := 3) (L1 := stA550) (hihA hK) (by kernel_rfl) runA551 (by kernel_rfl) ?_
  refine triOps_call (i := 3) (f := 88) (fi := #[]) (ca := #[]) (v := vvA258) (L0 := stA550) (Lc := stA593) (L1 := stA599) rfl rfl (by kernel_rfl) (by kernel_rfl) (by kernel_rfl) (by kernel_rfl) (tA598 hK) runA600 ?_
  exact triOps_end (i := 4) (L1 := stA601) (hihA hK) runA602 (by kernel_rfl)
theorem tA606 {W : World} (hK : KA W) : TX W pA133 stA601.act stA601.st .normal stA604 := triX_code (hihA hK) runA605
theorem tA607 {W : World} (hK : KA W) : TX W pA87 stA548.act stA548.st .normal stA604 := tx_seq (by kernel_rfl) (tA603 hK) (tA606 hK)
theorem tA608 {W : World} (hK : KA W) : TX W pA86 stA546.act stA546.st .normal stA604 := triX_hds (k := 1) (L1 := stA548) (hihA hK) (by kernel_rfl) runA549 (tA607 hK)
theorem tA609 {W : World} (hK : KA W) : TX W pA85 stA546.act stA546.st .normal stA604 := tx_through (by kernel_rfl) (by kernel_rfl) (tA608 hK)
theorem tA612 {W : World} (hK : KA W) : TX W pA135 stA604.act stA604.st .normal stA610 := triX_code (hihA hK) runA611
theorem tA613 {W : World} (hK : KA W) : TX W pA84 stA546.act stA546.st .normal stA610 := tx_seq (by kernel_rfl) (tA609 hK) (tA612 hK)
theorem tA614 {W : World} (hK : KA W) : TX W pA83 stA544.act stA544.st .normal stA610 := triX_hds (k := 2) (L1 := stA546) (hihA hK) (by kernel_rfl) runA547 (tA613 hK)
theorem tA617 {W : World} (hK : KA W) : TX W pA83 stA610.act stA610.st (.exit 0) stA615 := triX_code (hihA hK) runA616
theorem tA618 {W : World} (hK : KA W) : TX W pA82 stA544.act stA544.st (.exit 0) stA615 := tx_loop (m := 1) (by kernel_rfl) rfl (.next (tA614 hK) (.last (tA617 hK)))
theorem tA619 {W : World} (hK : KA W) : TX W pA81 stA544.act stA544.st .normal stA615 := tx_block (by kernel_rfl) (tA618 hK)
theorem tA620 {W : World} (hK : KA W) : TX W pA80 stA542.act stA542.st .normal stA615 := triX_hds (k := 1) (L1 := stA544) (hihA hK) (by kernel_rfl) runA545 (tA619 hK)
theorem tA623 {W : World} (hK : KA W) : TF W Tryz.f62 pA136 stA615.act stA615.st (vvA260) stA621.st := triFin_code (hihA hK) runA622
theorem tA624 {W : World} (hK : KA W) : TF W Tryz.f62 pA79 stA542.act stA542.st (vvA260) stA621.st := tf_seq (by kernel_rfl) (tA620 hK) (tA623 hK)
theorem tA625 {W : World} (hK : KA W) : TF W Tryz.f62 cdA62 ({ n := 46, t := PT.ofList 0 (PT.nil 8) vsA541, defers := [] }) stA539.st (vvA260) stA621.st := triFin_hds (k := 4) (L1 := stA542) (hihA hK) (by kernel_rfl) runA543 (tA624 hK)
theorem tA626 {W : World} (hK : KA W) : TC W 62 vsA541 stA539.st (vvA260) stA621.st := callT_fin Tryz.func62 bdA62 (by kernel_rfl) (n := 46) (by kernel_rfl) (by kernel_rfl) (tA625 hK)
theorem tA631 {W : World} (hK : KA W) : TX W pA160 stA537.act stA537.st .normal stA629 := by
  refine tx_region (by kernel_rfl) ?_
  refine triOps_cut (i := 0) (j := 5) (L1 := stA539) (hihA hK) (by kernel_rfl) runA540 (by kernel_rfl) ?_
  refine triOps_call (i := 5) (f := 62) (fi := #[]) (ca := #[]) (v := vvA260) (L0 := stA539) (Lc := stA621) (L1 := stA627) rfl rfl (by kernel_rfl) (by kernel_rfl) (by kernel_rfl) (by kernel_rfl) (tA626 hK) runA628 ?_
  exact triOps_end (i := 6) (L1 := stA629) (hihA hK) runA630 (by kernel_rfl)
theorem tA632 {W : World} (hK : KA W) : TX W pA156 stA535.act stA535.st .normal stA629 := triX_hds (k := 2) (L1 := stA537) (hihA hK) (by kernel_rfl) runA538 (tA631 hK)
theorem tA633 {W : World} (hK : KA W) : TX W pA155 stA535.act stA535.st .normal stA629 := tx_through (by kernel_rfl) (by kernel_rfl) (tA632 hK)
theorem tA636 {W : World} (hK : KA W) : TX W pA187 stA629.act stA629.st .normal stA634 := triX_code (hihA hK) runA635
theorem tA637 {W : World} (hK : KA W) : TX W pA154 stA535.act stA535.st .normal stA634 := tx_seq (by kernel_rfl) (tA633 hK) (tA636 hK)
theorem tA638 {W : World} (hK : KA W) : TX W pA153 stA533.act stA533.st .normal stA634 := triX_hds (k := 2) (L1 := stA535) (hihA hK) (by kernel_rfl) runA536 (tA637 hK)
theorem tA641 {W : World} (hK : KA W) : TX W pA153 stA634.act stA634.st (.exit 0) stA639 := triX_code (hihA hK) runA640
theorem tA642 {W : World} (hK : KA W) : TX W pA152 stA533.act stA533.st (.exit 0) stA639 := tx_loop (m := 1) (by kernel_rfl) rfl (.next (tA638 hK) (.last (tA641 hK)))
theorem tA643 {W : World} (hK : KA W) : TX W pA151 stA533.act stA533.st .normal stA639 := tx_block (by kernel_rfl) (tA642 hK)
theorem tA644 {W : World} (hK : KA W) : TX W pA150 stA531.act stA531.st .normal stA639 := triX_hds (k := 1) (L1 := stA533) (hihA hK) (by kernel_rfl) runA534 (tA643 hK)
theorem tA647 {W : World} (hK : KA W) : TF W Tryz.f44 pA188 stA639.act stA639.st (vvA263) stA645.st := triFin_code (hihA hK) runA646
theorem tA648 {W : World} (hK : KA W) : TF W Tryz.f44 pA149 stA531.act stA531.st (vvA263) stA645.st := tf_seq (by kernel_rfl) (tA644 hK) (tA647 hK)
theorem tA649 {W : World} (hK : KA W) : TF W Tryz.f44 pA146 stA527.act stA527.st (vvA263) stA645.st := triFin_hds (k := 2) (L1 := stA531) (hihA hK) (by kernel_rfl) runA532 (tA648 hK)
theorem tA650 {W : World} (hK : KA W) : TF W Tryz.f44 pA53 stA361.act stA361.st (vvA263) stA645.st := tf_seq (by kernel_rfl) (tA530 hK) (tA649 hK)
theorem tA651 {W : World} (hK : KA W) : TF W Tryz.f44 cdA44 ({ n := 66, t := PT.ofList 0 (PT.nil 8) vsA360, defers := [] }) stA358.st (vvA263) stA645.st := triFin_hds (k := 1) (L1 := stA361) (hihA hK) (by kernel_rfl) runA362 (tA650 hK)
theorem tA652 {W : World} (hK : KA W) : TC W 44 vsA360 stA358.st (vvA263) stA645.st := callT_fin Tryz.func44 bdA44 (by kernel_rfl) (n := 66) (by kernel_rfl) (by kernel_rfl) (tA651 hK)
theorem tA657 {W : World} (hK : KA W) : TX W pA201 stA356.act stA356.st .normal stA655 := by
  refine tx_region (by kernel_rfl) ?_
  refine triOps_cut (i := 0) (j := 1) (L1 := stA358) (hihA hK) (by kernel_rfl) runA359 (by kernel_rfl) ?_
  refine triOps_call (i := 1) (f := 44) (fi := #[]) (ca := #[]) (v := vvA263) (L0 := stA358) (Lc := stA645) (L1 := stA653) rfl rfl (by kernel_rfl) (by kernel_rfl) (by kernel_rfl) (by kernel_rfl) (tA652 hK) runA654 ?_
  exact triOps_end (i := 2) (L1 := stA655) (hihA hK) runA656 (by kernel_rfl)
theorem tA666 {W : World} (hK : KA W) : TX W pA267 stA662.act stA662.st (.exit 2) stA664 := triX_code (hihA hK) runA665
theorem tA667 {W : World} (hK : KA W) : TX W pA266 stA658.act stA658.st (.exit 2) stA664 := tx_loop (m := 2) (by kernel_rfl) rfl (rounds_run (hihA hK) runA661 (rounds_run (hihA hK) runA663 (.last (tA666 hK))))
theorem tA668 {W : World} (hK : KA W) : TX W pA265 stA658.act stA658.st .normal stA664 := tx_block (by kernel_rfl) (tA667 hK)
theorem tA669 {W : World} (hK : KA W) : TX W pA264 stA655.act stA655.st .normal stA664 := triX_hds (k := 2) (L1 := stA658) (hihA hK) (by kernel_rfl) runA659 (tA668 hK)
theorem tA670 {W : World} (hK : KA W) : TX W pA200 stA356.act stA356.st .normal stA664 := tx_seq (by kernel_rfl) (tA657 hK) (tA669 hK)
theorem tA671 {W : World} (hK : KA W) : TX W pA199 stA353.act stA353.st .normal stA664 := triX_hds (k := 2) (L1 := stA356) (hihA hK) (by kernel_rfl) runA357 (tA670 hK)
theorem tA672 {W : World} (hK : KA W) : TX W pA47 stA22.act stA22.st .normal stA664 := tx_seq (by kernel_rfl) (tA355 hK) (tA671 hK)
theorem tA673 {W : World} (hK : KA W) : TX W pA44 stA20.act stA20.st .normal stA664 := triX_hds (k := 1) (L1 := stA22) (hihA hK) (by kernel_rfl) runA23 (tA672 hK)
theorem tA674 {W : World} (hK : KA W) : TX W pA43 stA20.act stA20.st .normal stA664 := tx_through (by kernel_rfl) (by kernel_rfl) (tA673 hK)
theorem tA677 {W : World} (hK : KA W) : TX W pA280 stA664.act stA664.st .normal stA675 := triX_code (hihA hK) runA676
theorem tA678 {W : World} (hK : KA W) : TX W pA42 stA20.act stA20.st .normal stA675 := tx_seq (by kernel_rfl) (tA674 hK) (tA677 hK)
theorem tA679 {W : World} (hK : KA W) : TX W pA41 stA18.act stA18.st .normal stA675 := triX_hds (k := 2) (L1 := stA20) (hihA hK) (by kernel_rfl) runA21 (tA678 hK)
theorem tA701 {W : World} (hK : KA W) : TF W Tryz.f44 pA285 stA697.act stA697.st (vvA289) stA699.st := triFin_code (hihA hK) runA700
theorem tA702 {W : World} (hK : KA W) : TF W Tryz.f44 cdA44 ({ n := 66, t := PT.ofList 0 (PT.nil 8) vsA696, defers := [] }) stA694.st (vvA289) stA699.st := triFin_hds (k := 4) (L1 := stA697) (hihA hK) (by kernel_rfl) runA698 (tA701 hK)
theorem tA703 {W : World} (hK : KA W) : TC W 44 vsA696 stA694.st (vvA289) stA699.st := callT_fin Tryz.func44 bdA44 (by kernel_rfl) (n := 66) (by kernel_rfl) (by kernel_rfl) (tA702 hK)
theorem tA708 {W : World} (hK : KA W) : TX W pA52 stA692.act stA692.st .normal stA706 := by
  refine tx_region (by kernel_rfl) ?_
  refine triOps_cut (i := 0) (j := 1) (L1 := stA694) (hihA hK) (by kernel_rfl) runA695 (by kernel_rfl) ?_
  refine triOps_call (i := 1) (f := 44) (fi := #[]) (ca := #[]) (v := vvA289) (L0 := stA694) (Lc := stA699) (L1 := stA704) rfl rfl (by kernel_rfl) (by kernel_rfl) (by kernel_rfl) (by kernel_rfl) (tA703 hK) runA705 ?_
  exact triOps_end (i := 2) (L1 := stA706) (hihA hK) runA707 (by kernel_rfl)
theorem tA711 {W : World} (hK : KA W) : TF W Tryz.f57 pA193 stA706.act stA706.st (vvA290) stA709.st := triFin_code (hihA hK) runA710
theorem tA712 {W : World} (hK : KA W) : TF W Tryz.f57 pA51 stA692.act stA692.st (vvA290) stA709.st := tf_seq (by kernel_rfl) (tA708 hK) (tA711 hK)
theorem tA713 {W : World} (hK : KA W) : TF W Tryz.f57 cdA57 ({ n := 42, t := PT.ofList 0 (PT.nil 8) vsA691, defers := [] }) stA689.st (vvA290) stA709.st := triFin_hds (k := 1) (L1 := stA692) (hihA hK) (by kernel_rfl) runA693 (tA712 hK)
theorem tA714 {W : World} (hK : KA W) : TC W 57 vsA691 stA689.st (vvA290) stA709.st := callT_fin Tryz.func57 bdA57 (by kernel_rfl) (n := 42) (by kernel_rfl) (by kernel_rfl) (tA713 hK)
theorem tA719 {W : World} (hK : KA W) : TX W pA50 stA687.act stA687.st .normal stA717 := by
  refine tx_region (by kernel_rfl) ?_
  refine triOps_cut (i := 0) (j := 1) (L1 := stA689) (hihA hK) (by kernel_rfl) runA690 (by kernel_rfl) ?_
  refine triOps_call (i := 1) (f := 57) (fi := #[]) (ca := #[]) (v := vvA290) (L0 := stA689) (Lc := stA709) (L1 := stA715) rfl rfl (by kernel_rfl) (by kernel_rfl) (by kernel_rfl) (by kernel_rfl) (tA714 hK) runA716 ?_
  exact triOps_end (i := 2) (L1 := stA717) (hihA hK) runA718 (by kernel_rfl)
theorem tA722 {W : World} (hK : KA W) : TF W Tryz.f43 pA196 stA717.act stA717.st (vvA291) stA720.st := triFin_code (hihA hK) runA721
theorem tA723 {W : World} (hK : KA W) : TF W Tryz.f43 pA49 stA687.act stA687.st (vvA291) stA720.st := tf_seq (by kernel_rfl) (tA719 hK) (tA722 hK)
theorem tA724 {W : World} (hK : KA W) : TF W Tryz.f43 cdA43 ({ n := 45, t := PT.ofList 0 (PT.nil 8) vsA686, defers := [] }) stA684.st (vvA291) stA720.st := triFin_hds (k := 1) (L1 := stA687) (hihA hK) (by kernel_rfl) runA688 (tA723 hK)
theorem tA725 {W : World} (hK : KA W) : TC W 43 vsA686 stA684.st (vvA291) stA720.st := callT_fin Tryz.func43 bdA43 (by kernel_rfl) (n := 45) (by kernel_rfl) (by kernel_rfl) (tA724 hK)
theorem tA730 {W : World} (hK : KA W) : TX W pA48 stA682.act stA682.st .normal stA728 := by
  refine tx_region (by kernel_rfl) ?_
  refine triOps_cut (i := 0) (j := 1) (L1 := stA684) (hihA hK) (by kernel_rfl) runA685 (by kernel_rfl) ?_
  refine triOps_call (i := 1) (f := 43) (fi := #[]) (ca := #[]) (v := vvA291) (L0 := stA684) (Lc := stA720) (L1 := stA726) rfl rfl (by kernel_rfl) (by kernel_rfl) (by kernel_rfl) (by kernel_rfl) (tA725 hK) runA727 ?_
  exact triOps_end (i := 2) (L1 := stA728) (hihA hK) runA729 (by kernel_rfl)
theorem tA740 {W : World} (hK : KA W) : TF W Tryz.f44 pA285 stA736.act stA736.st (vvA294) stA738.st := triFin_code (hihA hK) runA739
theorem tA741 {W : World} (hK : KA W) : TF W Tryz.f44 cdA44 ({ n := 66, t := PT.ofList 0 (PT.nil 8) vsA735, defers := [] }) stA733.st (vvA294) stA738.st := triFin_hds (k := 4) (L1 := stA736) (hihA hK) (by kernel_rfl) runA737 (tA740 hK)
theorem tA742 {W : World} (hK : KA W) : TC W 44 vsA735 stA733.st (vvA294) stA738.st := callT_fin Tryz.func44 bdA44 (by kernel_rfl) (n := 66) (by kernel_rfl) (by kernel_rfl) (tA741 hK)
theorem tA747 {W : World} (hK : KA W) : TX W pA201 stA731.act stA731.st .normal stA745 := by
  refine tx_region (by kernel_rfl) ?_
  refine triOps_cut (i := 0) (j := 1) (L1 := stA733) (hihA hK) (by kernel_rfl) runA734 (by kernel_rfl) ?_
  refine triOps_call (i := 1) (f := 44) (fi := #[]) (ca := #[]) (v := vvA294) (L0 := stA733) (Lc := stA738) (L1 := stA743) rfl rfl (by kernel_rfl) (by kernel_rfl) (by kernel_rfl) (by kernel_rfl) (tA742 hK) runA744 ?_
  exact triOps_end (i := 2) (L1 := stA745) (hihA hK) runA746 (by kernel_rfl)
theorem tA750 {W : World} (hK : KA W) : TX W pA264 stA745.act stA745.st .normal stA748 := triX_code (hihA hK) runA749
theorem tA751 {W : World} (hK : KA W) : TX W pA200 stA731.act stA731.st .normal stA748 := tx_seq (by kernel_rfl) (tA747 hK) (tA750 hK)
theorem tA752 {W : World} (hK : KA W) : TX W pA199 stA728.act stA728.st .normal stA748 := triX_hds (k := 2) (L1 := stA731) (hihA hK) (by kernel_rfl) runA732 (tA751 hK)
theorem tA753 {W : World} (hK : KA W) : TX W pA47 stA682.act stA682.st .normal stA748 := tx_seq (by kernel_rfl) (tA730 hK) (tA752 hK)
theorem tA754 {W : World} (hK : KA W) : TX W pA44 stA680.act stA680.st .normal stA748 := triX_hds (k := 1) (L1 := stA682) (hihA hK) (by kernel_rfl) runA683 (tA753 hK)
theorem tA755 {W : World} (hK : KA W) : TX W pA43 stA680.act stA680.st .normal stA748 := tx_through (by kernel_rfl) (by kernel_rfl) (tA754 hK)
theorem tA758 {W : World} (hK : KA W) : TX W pA280 stA748.act stA748.st .normal stA756 := triX_code (hihA hK) runA757
theorem tA759 {W : World} (hK : KA W) : TX W pA42 stA680.act stA680.st .normal stA756 := tx_seq (by kernel_rfl) (tA755 hK) (tA758 hK)
theorem tA760 {W : World} (hK : KA W) : TX W pA41 stA675.act stA675.st .normal stA756 := triX_hds (k := 2) (L1 := stA680) (hihA hK) (by kernel_rfl) runA681 (tA759 hK)
theorem tA763 {W : World} (hK : KA W) : TX W pA41 stA756.act stA756.st (.exit 0) stA761 := triX_code (hihA hK) runA762
theorem tA764 {W : World} (hK : KA W) : TX W pA40 stA18.act stA18.st (.exit 0) stA761 := tx_loop (m := 2) (by kernel_rfl) rfl (.next (tA679 hK) (.next (tA760 hK) (.last (tA763 hK))))
theorem tA765 {W : World} (hK : KA W) : TX W pA39 stA18.act stA18.st .normal stA761 := tx_block (by kernel_rfl) (tA764 hK)
theorem tA766 {W : World} (hK : KA W) : TX W pA38 stA16.act stA16.st .normal stA761 := triX_hds (k := 1) (L1 := stA18) (hihA hK) (by kernel_rfl) runA19 (tA765 hK)
theorem tA769 {W : World} (hK : KA W) : TF W Tryz.f21 pA301 stA761.act stA761.st (vvA302) stA767.st := triFin_code (hihA hK) runA768
theorem tA770 {W : World} (hK : KA W) : TF W Tryz.f21 pA37 stA16.act stA16.st (vvA302) stA767.st := tf_seq (by kernel_rfl) (tA766 hK) (tA769 hK)
theorem tA771 {W : World} (hK : KA W) : TF W Tryz.f21 cdA21 ({ n := 79, t := PT.ofList 0 (PT.nil 8) vsA15, defers := [] }) stA13.st (vvA302) stA767.st := triFin_hds (k := 4) (L1 := stA16) (hihA hK) (by kernel_rfl) runA17 (tA770 hK)
theorem tA772 {W : World} (hK : KA W) : TC W 21 vsA15 stA13.st (vvA302) stA767.st := callT_fin Tryz.func21 bdA21 (by kernel_rfl) (n := 79) (by kernel_rfl) (by kernel_rfl) (tA771 hK)
theorem tA777 {W : World} (hK : KA W) : TX W pA32 stA11.act stA11.st .normal stA775 := by
  refine tx_region (by kernel_rfl) ?_
  refine triOps_cut (i := 0) (j := 1) (L1 := stA13) (hihA hK) (by kernel_rfl) runA14 (by kernel_rfl) ?_
  refine triOps_call (i := 1) (f := 21) (fi := #[]) (ca := #[]) (v := vvA302) (L0 := stA13) (Lc := stA767) (L1 := stA773) rfl rfl (by kernel_rfl) (by kernel_rfl) (by kernel_rfl) (by kernel_rfl) (tA772 hK) runA774 ?_
  exact triOps_end (i := 2) (L1 := stA775) (hihA hK) runA776 (by kernel_rfl)
theorem tA780 {W : World} (hK : KA W) : TF W Tryz.f20 pA303 stA775.act stA775.st (vvA304) stA778.st := triFin_code (hihA hK) runA779
theorem tA781 {W : World} (hK : KA W) : TF W Tryz.f20 pA31 stA11.act stA11.st (vvA304) stA778.st := tf_seq (by kernel_rfl) (tA777 hK) (tA780 hK)
theorem tA782 {W : World} (hK : KA W) : TF W Tryz.f20 cdA20 ({ n := 41, t := PT.ofList 0 (PT.nil 8) vsA10, defers := [] }) stA8.st (vvA304) stA778.st := triFin_hds (k := 1) (L1 := stA11) (hihA hK) (by kernel_rfl) runA12 (tA781 hK)
theorem tA783 {W : World} (hK : KA W) : TC W 20 vsA10 stA8.st (vvA304) stA778.st := callT_fin Tryz.func20 bdA20 (by kernel_rfl) (n := 41) (by kernel_rfl) (by kernel_rfl) (tA782 hK)
theorem tA788 {W : World} (hK : KA W) : TX W pA30 stA6.act stA6.st .normal stA786 := by
  refine tx_region (by kernel_rfl) ?_
  refine triOps_cut (i := 0) (j := 1) (L1 := stA8) (hihA hK) (by kernel_rfl) runA9 (by kernel_rfl) ?_
  refine triOps_call (i := 1) (f := 20) (fi := #[]) (ca := #[]) (v := vvA304) (L0 := stA8) (Lc := stA778) (L1 := stA784) rfl rfl (by kernel_rfl) (by kernel_rfl) (by kernel_rfl) (by kernel_rfl) (tA783 hK) runA785 ?_
  exact triOps_end (i := 2) (L1 := stA786) (hihA hK) runA787 (by kernel_rfl)
theorem tA791 {W : World} (hK : KA W) : TF W Tryz.f11 pA305 stA786.act stA786.st (vt) stA789.st := triFin_code (hihA hK) runA790
theorem tA792 {W : World} (hK : KA W) : TF W Tryz.f11 pA29 stA6.act stA6.st (vt) stA789.st := tf_seq (by kernel_rfl) (tA788 hK) (tA791 hK)
theorem tA793 {W : World} (hK : KA W) : TF W Tryz.f11 cdA11 ({ n := 38, t := PT.ofList 0 (PT.nil 8) vsA5, defers := [] }) stA3.st (vt) stA789.st := triFin_hds (k := 1) (L1 := stA6) (hihA hK) (by kernel_rfl) runA7 (tA792 hK)
theorem tA794 {W : World} (hK : KA W) : TC W 11 vsA5 stA3.st (vt) stA789.st := callT_fin Tryz.func11 bdA11 (by kernel_rfl) (n := 38) (by kernel_rfl) (by kernel_rfl) (tA793 hK)
theorem tA799 {W : World} (hK : KA W) : TX W pA18 stA1.act stA1.st .normal stA797 := by
  refine tx_region (by kernel_rfl) ?_
  refine triOps_cut (i := 0) (j := 30) (L1 := stA3) (hihA hK) (by kernel_rfl) runA4 (by kernel_rfl) ?_
  refine triOps_call (i := 30) (f := 11) (fi := #[]) (ca := #[]) (v := vt) (L0 := stA3) (Lc := stA789) (L1 := stA795) rfl rfl (by kernel_rfl) (by kernel_rfl) (by kernel_rfl) (by kernel_rfl) (tA794 hK) runA796 ?_
  exact triOps_end (i := 31) (L1 := stA797) (hihA hK) runA798 (by kernel_rfl)
theorem tA802 {W : World} (hK : KA W) : TF W Tryz.f22 pA306 stA797.act stA797.st (vt) stA800.st := triFin_code (hihA hK) runA801
theorem tA803 {W : World} (hK : KA W) : TF W Tryz.f22 pA17 stA1.act stA1.st (vt) stA800.st := tf_seq (by kernel_rfl) (tA799 hK) (tA802 hK)
theorem tA804 {W : World} (hK : KA W) : TF W Tryz.f22 cdA22 ({ n := 52, t := PT.ofList 0 (PT.nil 8) vsA0, defers := [] }) start0 (vt) stA800.st := triFin_hds (k := 3) (L1 := stA1) (hihA hK) (by kernel_rfl) runA2 (tA803 hK)
theorem tA805 {W : World} (hK : KA W) : TC W 22 vsA0 start0 (vt) stA800.st := callT_fin Tryz.func22 bdA22 (by kernel_rfl) (n := 52) (by kernel_rfl) (by kernel_rfl) (tA804 hK)
theorem tB89 {W : World} (hK : KB W) : TF W Tryz.f110 pB106 stB85.act stB85.st (vvB112) stB87.st := triFin_code (hihB hK) runB88
theorem tB90 {W : World} (hK : KB W) : TF W Tryz.f110 cdB110 ({ n := 62, t := PT.ofList 0 (PT.nil 8) vsB84, defers := [] }) stB82.st (vvB112) stB87.st := triFin_hds (k := 3) (L1 := stB85) (hihB hK) (by kernel_rfl) runB86 (tB89 hK)
theorem tB91 {W : World} (hK : KB W) : TC W 110 vsB84 stB82.st (vvB112) stB87.st := callT_fin Tryz.func110 bdB110 (by kernel_rfl) (n := 62) (by kernel_rfl) (by kernel_rfl) (tB90 hK)
theorem tB96 {W : World} (hK : KB W) : TX W pB95 stB80.act stB80.st .normal stB94 := by
  refine tx_region (by kernel_rfl) ?_
  refine triOps_cut (i := 0) (j := 3) (L1 := stB82) (hihB hK) (by kernel_rfl) runB83 (by kernel_rfl) ?_
  refine triOps_call (i := 3) (f := 110) (fi := #[]) (ca := #[]) (v := vvB112) (L0 := stB82) (Lc := stB87) (L1 := stB92) rfl rfl (by kernel_rfl) (by kernel_rfl) (by kernel_rfl) (by kernel_rfl) (tB91 hK) runB93 ?_
  exact triOps_end (i := 4) (L1 := stB94) (hihB hK) runB95 (by kernel_rfl)
theorem tB99 {W : World} (hK : KB W) : TX W pB113 stB94.act stB94.st .normal stB97 := triX_code (hihB hK) runB98
theorem tB100 {W : World} (hK : KB W) : TX W pB94 stB80.act stB80.st .normal stB97 := tx_seq (by kernel_rfl) (tB96 hK) (tB99 hK)
theorem tB101 {W : World} (hK : KB W) : TX W pB93 stB78.act stB78.st .normal stB97 := triX_hds (k := 1) (L1 := stB80) (hihB hK) (by kernel_rfl) runB81 (tB100 hK)
theorem tB102 {W : World} (hK : KB W) : TX W pB92 stB78.act stB78.st .normal stB97 := tx_through (by kernel_rfl) (by kernel_rfl) (tB101 hK)
theorem tB105 {W : World} (hK : KB W) : TX W pB114 stB97.act stB97.st .normal stB103 := triX_code (hihB hK) runB104
theorem tB106 {W : World} (hK : KB W) : TX W pB91 stB78.act stB78.st .normal stB103 := tx_seq (by kernel_rfl) (tB102 hK) (tB105 hK)
theorem tB107 {W : World} (hK : KB W) : TX W pB90 stB76.act stB76.st .normal stB103 := triX_hds (k := 2) (L1 := stB78) (hihB hK) (by kernel_rfl) runB79 (tB106 hK)
theorem tB110 {W : World} (hK : KB W) : TX W pB90 stB103.act stB103.st (.exit 0) stB108 := triX_code (hihB hK) runB109
theorem tB111 {W : World} (hK : KB W) : TX W pB89 stB76.act stB76.st (.exit 0) stB108 := tx_loop (m := 1) (by kernel_rfl) rfl (.next (tB107 hK) (.last (tB110 hK)))
theorem tB112 {W : World} (hK : KB W) : TX W pB88 stB76.act stB76.st .normal stB108 := tx_block (by kernel_rfl) (tB111 hK)
theorem tB113 {W : World} (hK : KB W) : TX W pB87 stB74.act stB74.st .normal stB108 := triX_hds (k := 1) (L1 := stB76) (hihB hK) (by kernel_rfl) runB77 (tB112 hK)
theorem tB116 {W : World} (hK : KB W) : TF W Tryz.f88 pB115 stB108.act stB108.st (vvB121) stB114.st := triFin_code (hihB hK) runB115
theorem tB117 {W : World} (hK : KB W) : TF W Tryz.f88 pB86 stB74.act stB74.st (vvB121) stB114.st := tf_seq (by kernel_rfl) (tB113 hK) (tB116 hK)
theorem tB118 {W : World} (hK : KB W) : TF W Tryz.f88 cdB88 ({ n := 89, t := PT.ofList 0 (PT.nil 8) vsB73, defers := [] }) stB71.st (vvB121) stB114.st := triFin_hds (k := 7) (L1 := stB74) (hihB hK) (by kernel_rfl) runB75 (tB117 hK)
theorem tB119 {W : World} (hK : KB W) : TC W 88 vsB73 stB71.st (vvB121) stB114.st := callT_fin Tryz.func88 bdB88 (by kernel_rfl) (n := 89) (by kernel_rfl) (by kernel_rfl) (tB118 hK)
theorem tB124 {W : World} (hK : KB W) : TX W pB77 stB69.act stB69.st .normal stB122 := by
  refine tx_region (by kernel_rfl) ?_
  refine triOps_cut (i := 0) (j := 3) (L1 := stB71) (hihB hK) (by kernel_rfl) runB72 (by kernel_rfl) ?_
  refine triOps_call (i := 3) (f := 88) (fi := #[]) (ca := #[]) (v := vvB121) (L0 := stB71) (Lc := stB114) (L1 := stB120) rfl rfl (by kernel_rfl) (by kernel_rfl) (by kernel_rfl) (by kernel_rfl) (tB119 hK) runB121 ?_
  exact triOps_end (i := 4) (L1 := stB122) (hihB hK) runB123 (by kernel_rfl)
theorem tB127 {W : World} (hK : KB W) : TX W pB122 stB122.act stB122.st .normal stB125 := triX_code (hihB hK) runB126
theorem tB128 {W : World} (hK : KB W) : TX W pB76 stB69.act stB69.st .normal stB125 := tx_seq (by kernel_rfl) (tB124 hK) (tB127 hK)
theorem tB129 {W : World} (hK : KB W) : TX W pB75 stB67.act stB67.st .normal stB125 := triX_hds (k := 1) (L1 := stB69) (hihB hK) (by kernel_rfl) runB70 (tB128 hK)
theorem tB130 {W : World} (hK : KB W) : TX W pB74 stB67.act stB67.st .normal stB125 := tx_through (by kernel_rfl) (by kernel_rfl) (tB129 hK)
theorem tB133 {W : World} (hK : KB W) : TX W pB124 stB125.act stB125.st .normal stB131 := triX_code (hihB hK) runB132
theorem tB134 {W : World} (hK : KB W) : TX W pB73 stB67.act stB67.st .normal stB131 := tx_seq (by kernel_rfl) (tB130 hK) (tB133 hK)
theorem tB135 {W : World} (hK : KB W) : TX W pB72 stB65.act stB65.st .normal stB131 := triX_hds (k := 2) (L1 := stB67) (hihB hK) (by kernel_rfl) runB68 (tB134 hK)
theorem tB138 {W : World} (hK : KB W) : TX W pB72 stB131.act stB131.st (.exit 0) stB136 := triX_code (hihB hK) runB137
theorem tB139 {W : World} (hK : KB W) : TX W pB71 stB65.act stB65.st (.exit 0) stB136 := tx_loop (m := 1) (by kernel_rfl) rfl (.next (tB135 hK) (.last (tB138 hK)))
theorem tB140 {W : World} (hK : KB W) : TX W pB70 stB65.act stB65.st .normal stB136 := tx_block (by kernel_rfl) (tB139 hK)
theorem tB141 {W : World} (hK : KB W) : TX W pB69 stB63.act stB63.st .normal stB136 := triX_hds (k := 1) (L1 := stB65) (hihB hK) (by kernel_rfl) runB66 (tB140 hK)
theorem tB144 {W : World} (hK : KB W) : TF W Tryz.f62 pB125 stB136.act stB136.st (vvB126) stB142.st := triFin_code (hihB hK) runB143
theorem tB145 {W : World} (hK : KB W) : TF W Tryz.f62 pB68 stB63.act stB63.st (vvB126) stB142.st := tf_seq (by kernel_rfl) (tB141 hK) (tB144 hK)
theorem tB146 {W : World} (hK : KB W) : TF W Tryz.f62 cdB62 ({ n := 46, t := PT.ofList 0 (PT.nil 8) vsB62, defers := [] }) stB60.st (vvB126) stB142.st := triFin_hds (k := 4) (L1 := stB63) (hihB hK) (by kernel_rfl) runB64 (tB145 hK)
theorem tB147 {W : World} (hK : KB W) : TC W 62 vsB62 stB60.st (vvB126) stB142.st := callT_fin Tryz.func62 bdB62 (by kernel_rfl) (n := 46) (by kernel_rfl) (by kernel_rfl) (tB146 hK)
theorem tB152 {W : World} (hK : KB W) : TX W pB67 stB58.act stB58.st .normal stB150 := by
  refine tx_region (by kernel_rfl) ?_
  refine triOps_cut (i := 0) (j := 2) (L1 := stB60) (hihB hK) (by kernel_rfl) runB61 (by kernel_rfl) ?_
  refine triOps_call (i := 2) (f := 62) (fi := #[]) (ca := #[]) (v := vvB126) (L0 := stB60) (Lc := stB142) (L1 := stB148) rfl rfl (by kernel_rfl) (by kernel_rfl) (by kernel_rfl) (by kernel_rfl) (tB147 hK) runB149 ?_
  exact triOps_end (i := 3) (L1 := stB150) (hihB hK) runB151 (by kernel_rfl)
theorem tB155 {W : World} (hK : KB W) : TF W Tryz.f100 pB127 stB150.act stB150.st (.tuple #[.int .i64 2, .int .i64 0]) stB153.st := triFin_code (hihB hK) runB154
theorem tB156 {W : World} (hK : KB W) : TF W Tryz.f100 pB66 stB58.act stB58.st (.tuple #[.int .i64 2, .int .i64 0]) stB153.st := tf_seq (by kernel_rfl) (tB152 hK) (tB155 hK)
theorem tB157 {W : World} (hK : KB W) : TF W Tryz.f100 cdB100 ({ n := 17, t := PT.ofList 0 (PT.nil 8) vsB57, defers := [] }) stB55.st (.tuple #[.int .i64 2, .int .i64 0]) stB153.st := triFin_hds (k := 1) (L1 := stB58) (hihB hK) (by kernel_rfl) runB59 (tB156 hK)
theorem tB158 {W : World} (hK : KB W) : TC W 100 vsB57 stB55.st (.tuple #[.int .i64 2, .int .i64 0]) stB153.st := callT_fin Tryz.func100 bdB100 (by kernel_rfl) (n := 17) (by kernel_rfl) (by kernel_rfl) (tB157 hK)
theorem tB163 {W : World} (hK : KB W) : TX W pB63 stB53.act stB53.st .normal stB161 := by
  refine tx_region (by kernel_rfl) ?_
  refine triOps_cut (i := 0) (j := 3) (L1 := stB55) (hihB hK) (by kernel_rfl) runB56 (by kernel_rfl) ?_
  refine triOps_call (i := 3) (f := 100) (fi := #[]) (ca := #[]) (v := .tuple #[.int .i64 2, .int .i64 0]) (L0 := stB55) (Lc := stB153) (L1 := stB159) rfl rfl (by kernel_rfl) (by kernel_rfl) (by kernel_rfl) (by kernel_rfl) (tB158 hK) runB160 ?_
  exact triOps_end (i := 4) (L1 := stB161) (hihB hK) runB162 (by kernel_rfl)
theorem tB166 {W : World} (hK : KB W) : TX W pB128 stB161.act stB161.st .normal stB164 := triX_code (hihB hK) runB165
theorem tB167 {W : World} (hK : KB W) : TX W pB62 stB53.act stB53.st .normal stB164 := tx_seq (by kernel_rfl) (tB163 hK) (tB166 hK)
theorem tB168 {W : World} (hK : KB W) : TX W pB56 stB51.act stB51.st .normal stB164 := triX_hds (k := 2) (L1 := stB53) (hihB hK) (by kernel_rfl) runB54 (tB167 hK)
theorem tB169 {W : World} (hK : KB W) : TX W pB55 stB51.act stB51.st .normal stB164 := tx_through (by kernel_rfl) (by kernel_rfl) (tB168 hK)
theorem tB172 {W : World} (hK : KB W) : TX W pB130 stB164.act stB164.st .normal stB170 := triX_code (hihB hK) runB171
theorem tB173 {W : World} (hK : KB W) : TX W pB54 stB51.act stB51.st .normal stB170 := tx_seq (by kernel_rfl) (tB169 hK) (tB172 hK)
theorem tB174 {W : World} (hK : KB W) : TX W pB53 stB49.act stB49.st .normal stB170 := triX_hds (k := 2) (L1 := stB51) (hihB hK) (by kernel_rfl) runB52 (tB173 hK)
theorem tB177 {W : World} (hK : KB W) : TX W pB53 stB170.act stB170.st (.exit 0) stB175 := triX_code (hihB hK) runB176
theorem tB178 {W : World} (hK : KB W) : TX W pB52 stB49.act stB49.st (.exit 0) stB175 := tx_loop (m := 1) (by kernel_rfl) rfl (.next (tB174 hK) (.last (tB177 hK)))
theorem tB179 {W : World} (hK : KB W) : TX W pB51 stB49.act stB49.st .normal stB175 := tx_block (by kernel_rfl) (tB178 hK)
theorem tB180 {W : World} (hK : KB W) : TX W pB50 stB47.act stB47.st .normal stB175 := triX_hds (k := 1) (L1 := stB49) (hihB hK) (by kernel_rfl) runB50 (tB179 hK)
theorem tB183 {W : World} (hK : KB W) : TF W Tryz.f82 pB131 stB175.act stB175.st (vvB132) stB181.st := triFin_code (hihB hK) runB182
theorem tB184 {W : World} (hK : KB W) : TF W Tryz.f82 pB49 stB47.act stB47.st (vvB132) stB181.st := tf_seq (by kernel_rfl) (tB180 hK) (tB183 hK)
theorem tB185 {W : World} (hK : KB W) : TF W Tryz.f82 cdB82 ({ n := 52, t := PT.ofList 0 (PT.nil 8) vsB46, defers := [] }) stB44.st (vvB132) stB181.st := triFin_hds (k := 4) (L1 := stB47) (hihB hK) (by kernel_rfl) runB48 (tB184 hK)
theorem tB186 {W : World} (hK : KB W) : TC W 82 vsB46 stB44.st (vvB132) stB181.st := callT_fin Tryz.func82 bdB82 (by kernel_rfl) (n := 52) (by kernel_rfl) (by kernel_rfl) (tB185 hK)
theorem tB191 {W : World} (hK : KB W) : TX W pB46 stB42.act stB42.st .normal stB189 := by
  refine tx_region (by kernel_rfl) ?_
  refine triOps_cut (i := 0) (j := 1) (L1 := stB44) (hihB hK) (by kernel_rfl) runB45 (by kernel_rfl) ?_
  refine triOps_call (i := 1) (f := 82) (fi := #[]) (ca := #[]) (v := vvB132) (L0 := stB44) (Lc := stB181) (L1 := stB187) rfl rfl (by kernel_rfl) (by kernel_rfl) (by kernel_rfl) (by kernel_rfl) (tB186 hK) runB188 ?_
  exact triOps_end (i := 2) (L1 := stB189) (hihB hK) runB190 (by kernel_rfl)
theorem tB194 {W : World} (hK : KB W) : TF W Tryz.f59 pB133 stB189.act stB189.st (.tuple #[.int .i64 2, .int .i64 0]) stB192.st := triFin_code (hihB hK) runB193
theorem tB195 {W : World} (hK : KB W) : TF W Tryz.f59 pB45 stB42.act stB42.st (.tuple #[.int .i64 2, .int .i64 0]) stB192.st := tf_seq (by kernel_rfl) (tB191 hK) (tB194 hK)
theorem tB196 {W : World} (hK : KB W) : TF W Tryz.f59 cdB59 ({ n := 30, t := PT.ofList 0 (PT.nil 8) vsB41, defers := [] }) stB39.st (.tuple #[.int .i64 2, .int .i64 0]) stB192.st := triFin_hds (k := 1) (L1 := stB42) (hihB hK) (by kernel_rfl) runB43 (tB195 hK)
theorem tB197 {W : World} (hK : KB W) : TC W 59 vsB41 stB39.st (.tuple #[.int .i64 2, .int .i64 0]) stB192.st := callT_fin Tryz.func59 bdB59 (by kernel_rfl) (n := 30) (by kernel_rfl) (by kernel_rfl) (tB196 hK)
theorem tB202 {W : World} (hK : KB W) : TX W pB44 stB37.act stB37.st .normal stB200 := by
  refine tx_region (by kernel_rfl) ?_
  refine triOps_cut (i := 0) (j := 1) (L1 := stB39) (hihB hK) (by kernel_rfl) runB40 (by kernel_rfl) ?_
  refine triOps_call (i := 1) (f := 59) (fi := #[]) (ca := #[]) (v := .tuple #[.int .i64 2, .int .i64 0]) (L0 := stB39) (Lc := stB192) (L1 := stB198) rfl rfl (by kernel_rfl) (by kernel_rfl) (by kernel_rfl) (by kernel_rfl) (tB197 hK) runB199 ?_
  exact triOps_end (i := 2) (L1 := stB200) (hihB hK) runB201 (by kernel_rfl)
theorem tB205 {W : World} (hK : KB W) : TX W pB134 stB200.act stB200.st .normal stB203 := triX_code (hihB hK) runB204
theorem tB206 {W : World} (hK : KB W) : TX W pB43 stB37.act stB37.st .normal stB203 := tx_seq (by kernel_rfl) (tB202 hK) (tB205 hK)
theorem tB244 {W : World} (hK : KB W) : TF W Tryz.f110 pB106 stB240.act stB240.st (vvB166) stB242.st := triFin_code (hihB hK) runB243
theorem tB245 {W : World} (hK : KB W) : TF W Tryz.f110 cdB110 ({ n := 62, t := PT.ofList 0 (PT.nil 8) vsB239, defers := [] }) stB237.st (vvB166) stB242.st := triFin_hds (k := 3) (L1 := stB240) (hihB hK) (by kernel_rfl) runB241 (tB244 hK)
theorem tB246 {W : World} (hK : KB W) : TC W 110 vsB239 stB237.st (vvB166) stB242.st := callT_fin Tryz.func110 bdB110 (by kernel_rfl) (n := 62) (by kernel_rfl) (by kernel_rfl) (tB245 hK)
theorem tB251 {W : World} (hK : KB W) : TX W pB95 stB235.act stB235.st .normal stB249 := by
  refine tx_region (by kernel_rfl) ?_
  refine triOps_cut (i := 0) (j := 3) (L1 := stB237) (hihB hK) (by kernel_rfl) runB238 (by kernel_rfl) ?_
  refine triOps_call (i := 3) (f := 110) (fi := #[]) (ca := #[]) (v := vvB166) (L0 := stB237) (Lc := stB242) (L1 := stB247) rfl rfl (by kernel_rfl) (by kernel_rfl) (by kernel_rfl) (by kernel_rfl) (tB246 hK) runB248 ?_
  exact triOps_end (i := 4) (L1 := stB249) (hihB hK) runB250 (by kernel_rfl)
theorem tB254 {W : World} (hK : KB W) : TX W pB113 stB249.act stB249.st .normal stB252 := triX_code (hihB hK) runB253
theorem tB255 {W : World} (hK : KB W) : TX W pB94 stB235.act stB235.st .normal stB252 := tx_seq (by kernel_rfl) (tB251 hK) (tB254 hK)
theorem tB256 {W : World} (hK : KB W) : TX W pB93 stB233.act stB233.st .normal stB252 := triX_hds (k := 1) (L1 := stB235) (hihB hK) (by kernel_rfl) runB236 (tB255 hK)
theorem tB257 {W : World} (hK : KB W) : TX W pB92 stB233.act stB233.st .normal stB252 := tx_through (by kernel_rfl) (by kernel_rfl) (tB256 hK)
theorem tB260 {W : World} (hK : KB W) : TX W pB114 stB252.act stB252.st .normal stB258 := triX_code (hihB hK) runB259
theorem tB261 {W : World} (hK : KB W) : TX W pB91 stB233.act stB233.st .normal stB258 := tx_seq (by kernel_rfl) (tB257 hK) (tB260 hK)
theorem tB262 {W : World} (hK : KB W) : TX W pB90 stB231.act stB231.st .normal stB258 := triX_hds (k := 2) (L1 := stB233) (hihB hK) (by kernel_rfl) runB234 (tB261 hK)
theorem tB265 {W : World} (hK : KB W) : TX W pB90 stB258.act stB258.st (.exit 0) stB263 := triX_code (hihB hK) runB264
theorem tB266 {W : World} (hK : KB W) : TX W pB89 stB231.act stB231.st (.exit 0) stB263 := tx_loop (m := 1) (by kernel_rfl) rfl (.next (tB262 hK) (.last (tB265 hK)))
theorem tB267 {W : World} (hK : KB W) : TX W pB88 stB231.act stB231.st .normal stB263 := tx_block (by kernel_rfl) (tB266 hK)
theorem tB268 {W : World} (hK : KB W) : TX W pB87 stB229.act stB229.st .normal stB263 := triX_hds (k := 1) (L1 := stB231) (hihB hK) (by kernel_rfl) runB232 (tB267 hK)
theorem tB271 {W : World} (hK : KB W) : TF W Tryz.f88 pB115 stB263.act stB263.st (vvB172) stB269.st := triFin_code (hihB hK) runB270
theorem tB272 {W : World} (hK : KB W) : TF W Tryz.f88 pB86 stB229.act stB229.st (vvB172) stB269.st := tf_seq (by kernel_rfl) (tB268 hK) (tB271 hK)
theorem tB273 {W : World} (hK : KB W) : TF W Tryz.f88 cdB88 ({ n := 89, t := PT.ofList 0 (PT.nil 8) vsB228, defers := [] }) stB226.st (vvB172) stB269.st := triFin_hds (k := 7) (L1 := stB229) (hihB hK) (by kernel_rfl) runB230 (tB272 hK)
theorem tB274 {W : World} (hK : KB W) : TC W 88 vsB228 stB226.st (vvB172) stB269.st := callT_fin Tryz.func88 bdB88 (by kernel_rfl) (n := 89) (by kernel_rfl) (by kernel_rfl) (tB273 hK)
theorem tB279 {W : World} (hK : KB W) : TX W pB77 stB224.act stB224.st .normal stB277 := by
  refine tx_region (by kernel_rfl) ?_
  refine triOps_cut (i := 0) (j := 3) (L1 := stB226) (hihB hK) (by kernel_rfl) runB227 (by kernel_rfl) ?_
  refine triOps_call (i := 3) (f := 88) (fi := #[]) (ca := #[]) (v := vvB172) (L0 := stB226) (Lc := stB269) (L1 := stB275) rfl rfl (by kernel_rfl) (by kernel_rfl) (by kernel_rfl) (by kernel_rfl) (tB274 hK) runB276 ?_
  exact triOps_end (i := 4) (L1 := stB277) (hihB hK) runB278 (by kernel_rfl)
theorem tB282 {W : World} (hK : KB W) : TX W pB122 stB277.act stB277.st .normal stB280 := triX_code (hihB hK) runB281
theorem tB283 {W : World} (hK : KB W) : TX W pB76 stB224.act stB224.st .normal stB280 := tx_seq (by kernel_rfl) (tB279 hK) (tB282 hK)
theorem tB284 {W : World} (hK : KB W) : TX W pB75 stB222.act stB222.st .normal stB280 := triX_hds (k := 1) (L1 := stB224) (hihB hK) (by kernel_rfl) runB225 (tB283 hK)
theorem tB285 {W : World} (hK : KB W) : TX W pB74 stB222.act stB222.st .normal stB280 := tx_through (by kernel_rfl) (by kernel_rfl) (tB284 hK)
theorem tB288 {W : World} (hK : KB W) : TX W pB124 stB280.act stB280.st .normal stB286 := triX_code (hihB hK) runB287
theorem tB289 {W : World} (hK : KB W) : TX W pB73 stB222.act stB222.st .normal stB286 := tx_seq (by kernel_rfl) (tB285 hK) (tB288 hK)
theorem tB290 {W : World} (hK : KB W) : TX W pB72 stB220.act stB220.st .normal stB286 := triX_hds (k := 2) (L1 := stB222) (hihB hK) (by kernel_rfl) runB223 (tB289 hK)
theorem tB293 {W : World} (hK : KB W) : TX W pB72 stB286.act stB286.st (.exit 0) stB291 := triX_code (hihB hK) runB292
theorem tB294 {W : World} (hK : KB W) : TX W pB71 stB220.act stB220.st (.exit 0) stB291 := tx_loop (m := 1) (by kernel_rfl) rfl (.next (tB290 hK) (.last (tB293 hK)))
theorem tB295 {W : World} (hK : KB W) : TX W pB70 stB220.act stB220.st .normal stB291 := tx_block (by kernel_rfl) (tB294 hK)
theorem tB296 {W : World} (hK : KB W) : TX W pB69 stB218.act stB218.st .normal stB291 := triX_hds (k := 1) (L1 := stB220) (hihB hK) (by kernel_rfl) runB221 (tB295 hK)
theorem tB299 {W : World} (hK : KB W) : TF W Tryz.f62 pB125 stB291.act stB291.st (vvB174) stB297.st := triFin_code (hihB hK) runB298
theorem tB300 {W : World} (hK : KB W) : TF W Tryz.f62 pB68 stB218.act stB218.st (vvB174) stB297.st := tf_seq (by kernel_rfl) (tB296 hK) (tB299 hK)
theorem tB301 {W : World} (hK : KB W) : TF W Tryz.f62 cdB62 ({ n := 46, t := PT.ofList 0 (PT.nil 8) vsB217, defers := [] }) stB215.st (vvB174) stB297.st := triFin_hds (k := 4) (L1 := stB218) (hihB hK) (by kernel_rfl) runB219 (tB300 hK)
theorem tB302 {W : World} (hK : KB W) : TC W 62 vsB217 stB215.st (vvB174) stB297.st := callT_fin Tryz.func62 bdB62 (by kernel_rfl) (n := 46) (by kernel_rfl) (by kernel_rfl) (tB301 hK)
theorem tB307 {W : World} (hK : KB W) : TX W pB149 stB213.act stB213.st .normal stB305 := by
  refine tx_region (by kernel_rfl) ?_
  refine triOps_cut (i := 0) (j := 5) (L1 := stB215) (hihB hK) (by kernel_rfl) runB216 (by kernel_rfl) ?_
  refine triOps_call (i := 5) (f := 62) (fi := #[]) (ca := #[]) (v := vvB174) (L0 := stB215) (Lc := stB297) (L1 := stB303) rfl rfl (by kernel_rfl) (by kernel_rfl) (by kernel_rfl) (by kernel_rfl) (tB302 hK) runB304 ?_
  exact triOps_end (i := 6) (L1 := stB305) (hihB hK) runB306 (by kernel_rfl)
theorem tB308 {W : World} (hK : KB W) : TX W pB145 stB211.act stB211.st .normal stB305 := triX_hds (k := 2) (L1 := stB213) (hihB hK) (by kernel_rfl) runB214 (tB307 hK)
theorem tB309 {W : World} (hK : KB W) : TX W pB144 stB211.act stB211.st .normal stB305 := tx_through (by kernel_rfl) (by kernel_rfl) (tB308 hK)
theorem tB312 {W : World} (hK : KB W) : TX W pB176 stB305.act stB305.st .normal stB310 := triX_code (hihB hK) runB311
theorem tB313 {W : World} (hK : KB W) : TX W pB143 stB211.act stB211.st .normal stB310 := tx_seq (by kernel_rfl) (tB309 hK) (tB312 hK)
theorem tB314 {W : World} (hK : KB W) : TX W pB142 stB209.act stB209.st .normal stB310 := triX_hds (k := 2) (L1 := stB211) (hihB hK) (by kernel_rfl) runB212 (tB313 hK)
theorem tB317 {W : World} (hK : KB W) : TX W pB142 stB310.act stB310.st (.exit 0) stB315 := triX_code (hihB hK) runB316
theorem tB318 {W : World} (hK : KB W) : TX W pB141 stB209.act stB209.st (.exit 0) stB315 := tx_loop (m := 1) (by kernel_rfl) rfl (.next (tB314 hK) (.last (tB317 hK)))
theorem tB319 {W : World} (hK : KB W) : TX W pB140 stB209.act stB209.st .normal stB315 := tx_block (by kernel_rfl) (tB318 hK)
theorem tB320 {W : World} (hK : KB W) : TX W pB139 stB207.act stB207.st .normal stB315 := triX_hds (k := 1) (L1 := stB209) (hihB hK) (by kernel_rfl) runB210 (tB319 hK)
theorem tB323 {W : World} (hK : KB W) : TF W Tryz.f44 pB177 stB315.act stB315.st (vvB181) stB321.st := triFin_code (hihB hK) runB322
theorem tB324 {W : World} (hK : KB W) : TF W Tryz.f44 pB138 stB207.act stB207.st (vvB181) stB321.st := tf_seq (by kernel_rfl) (tB320 hK) (tB323 hK)
theorem tB325 {W : World} (hK : KB W) : TF W Tryz.f44 pB135 stB203.act stB203.st (vvB181) stB321.st := triFin_hds (k := 2) (L1 := stB207) (hihB hK) (by kernel_rfl) runB208 (tB324 hK)
theorem tB326 {W : World} (hK : KB W) : TF W Tryz.f44 pB42 stB37.act stB37.st (vvB181) stB321.st := tf_seq (by kernel_rfl) (tB206 hK) (tB325 hK)
theorem tB327 {W : World} (hK : KB W) : TF W Tryz.f44 cdB44 ({ n := 66, t := PT.ofList 0 (PT.nil 8) vsB36, defers := [] }) stB34.st (vvB181) stB321.st := triFin_hds (k := 1) (L1 := stB37) (hihB hK) (by kernel_rfl) runB38 (tB326 hK)
theorem tB328 {W : World} (hK : KB W) : TC W 44 vsB36 stB34.st (vvB181) stB321.st := callT_fin Tryz.func44 bdB44 (by kernel_rfl) (n := 66) (by kernel_rfl) (by kernel_rfl) (tB327 hK)
theorem tB333 {W : World} (hK : KB W) : TX W pB41 stB32.act stB32.st .normal stB331 := by
  refine tx_region (by kernel_rfl) ?_
  refine triOps_cut (i := 0) (j := 1) (L1 := stB34) (hihB hK) (by kernel_rfl) runB35 (by kernel_rfl) ?_
  refine triOps_call (i := 1) (f := 44) (fi := #[]) (ca := #[]) (v := vvB181) (L0 := stB34) (Lc := stB321) (L1 := stB329) rfl rfl (by kernel_rfl) (by kernel_rfl) (by kernel_rfl) (by kernel_rfl) (tB328 hK) runB330 ?_
  exact triOps_end (i := 2) (L1 := stB331) (hihB hK) runB332 (by kernel_rfl)
theorem tB336 {W : World} (hK : KB W) : TF W Tryz.f57 pB182 stB331.act stB331.st (vvB184) stB334.st := triFin_code (hihB hK) runB335
theorem tB337 {W : World} (hK : KB W) : TF W Tryz.f57 pB40 stB32.act stB32.st (vvB184) stB334.st := tf_seq (by kernel_rfl) (tB333 hK) (tB336 hK)
theorem tB338 {W : World} (hK : KB W) : TF W Tryz.f57 cdB57 ({ n := 42, t := PT.ofList 0 (PT.nil 8) vsB31, defers := [] }) stB29.st (vvB184) stB334.st := triFin_hds (k := 1) (L1 := stB32) (hihB hK) (by kernel_rfl) runB33 (tB337 hK)
theorem tB339 {W : World} (hK : KB W) : TC W 57 vsB31 stB29.st (vvB184) stB334.st := callT_fin Tryz.func57 bdB57 (by kernel_rfl) (n := 42) (by kernel_rfl) (by kernel_rfl) (tB338 hK)
theorem tB344 {W : World} (hK : KB W) : TX W pB39 stB27.act stB27.st .normal stB342 := by
  refine tx_region (by kernel_rfl) ?_
  refine triOps_cut (i := 0) (j := 1) (L1 := stB29) (hihB hK) (by kernel_rfl) runB30 (by kernel_rfl) ?_
  refine triOps_call (i := 1) (f := 57) (fi := #[]) (ca := #[]) (v := vvB184) (L0 := stB29) (Lc := stB334) (L1 := stB340) rfl rfl (by kernel_rfl) (by kernel_rfl) (by kernel_rfl) (by kernel_rfl) (tB339 hK) runB341 ?_
  exact triOps_end (i := 2) (L1 := stB342) (hihB hK) runB343 (by kernel_rfl)
theorem tB347 {W : World} (hK : KB W) : TF W Tryz.f43 pB185 stB342.act stB342.st (vvB187) stB345.st := triFin_code (hihB hK) runB346
theorem tB348 {W : World} (hK : KB W) : TF W Tryz.f43 pB38 stB27.act stB27.st (vvB187) stB345.st := tf_seq (by kernel_rfl) (tB344 hK) (tB347 hK)
theorem tB349 {W : World} (hK : KB W) : TF W Tryz.f43 cdB43 ({ n := 45, t := PT.ofList 0 (PT.nil 8) vsB26, defers := [] }) stB24.st (vvB187) stB345.st := triFin_hds (k := 1) (L1 := stB27) (hihB hK) (by kernel_rfl) runB28 (tB348 hK)
theorem tB350 {W : World} (hK : KB W) : TC W 43 vsB26 stB24.st (vvB187) stB345.st := callT_fin Tryz.func43 bdB43 (by kernel_rfl) (n := 45) (by kernel_rfl) (by kernel_rfl) (tB349 hK)
theorem tB355 {W : World} (hK : KB W) : TX W pB37 stB22.act stB22.st .normal stB353 := by
  refine tx_region (by kernel_rfl) ?_
  refine triOps_cut (i := 0) (j := 1) (L1 := stB24) (hihB hK) (by kernel_rfl) runB25 (by kernel_rfl) ?_
  refine triOps_call (i := 1) (f := 43) (fi := #[]) (ca := #[]) (v := vvB187) (L0 := stB24) (Lc := stB345) (L1 := stB351) rfl rfl (by kernel_rfl) (by kernel_rfl) (by kernel_rfl) (by kernel_rfl) (tB350 hK) runB352 ?_
  exact triOps_end (i := 2) (L1 := stB353) (hihB hK) runB354 (by kernel_rfl)
theorem tB413 {W : World} (hK : KB W) : TF W Tryz.f110 pB106 stB409.act stB409.st (vvB211) stB411.st := triFin_code (hihB hK) runB412
theorem tB414 {W : World} (hK : KB W) : TF W Tryz.f110 cdB110 ({ n := 62, t := PT.ofList 0 (PT.nil 8) vsB408, defers := [] }) stB406.st (vvB211) stB411.st := triFin_hds (k := 3) (L1 := stB409) (hihB hK) (by kernel_rfl) runB410 (tB413 hK)
theorem tB415 {W : World} (hK : KB W) : TC W 110 vsB408 stB406.st (vvB211) stB411.st := callT_fin Tryz.func110 bdB110 (by kernel_rfl) (n := 62) (by kernel_rfl) (by kernel_rfl) (tB414 hK)
theorem tB420 {W : World} (hK : KB W) : TX W pB95 stB404.act stB404.st .normal stB418 := by
  refine tx_region (by kernel_rfl) ?_
  refine triOps_cut (i := 0) (j := 3) (L1 := stB406) (hihB hK) (by kernel_rfl) runB407 (by kernel_rfl) ?_
  refine triOps_call (i := 3) (f := 110) (fi := #[]) (ca := #[]) (v := vvB211) (L0 := stB406) (Lc := stB411) (L1 := stB416) rfl rfl (by kernel_rfl) (by kernel_rfl) (by kernel_rfl) (by kernel_rfl) (tB415 hK) runB417 ?_
  exact triOps_end (i := 4) (L1 := stB418) (hihB hK) runB419 (by kernel_rfl)
theorem tB423 {W : World} (hK : KB W) : TX W pB113 stB418.act stB418.st .normal stB421 := triX_code (hihB hK) runB422
theorem tB424 {W : World} (hK : KB W) : TX W pB94 stB404.act stB404.st .normal stB421 := tx_seq (by kernel_rfl) (tB420 hK) (tB423 hK)
theorem tB425 {W : World} (hK : KB W) : TX W pB93 stB402.act stB402.st .normal stB421 := triX_hds (k := 1) (L1 := stB404) (hihB hK) (by kernel_rfl) runB405 (tB424 hK)
theorem tB426 {W : World} (hK : KB W) : TX W pB92 stB402.act stB402.st .normal stB421 := tx_through (by kernel_rfl) (by kernel_rfl) (tB425 hK)
theorem tB429 {W : World} (hK : KB W) : TX W pB114 stB421.act stB421.st .normal stB427 := triX_code (hihB hK) runB428
theorem tB430 {W : World} (hK : KB W) : TX W pB91 stB402.act stB402.st .normal stB427 := tx_seq (by kernel_rfl) (tB426 hK) (tB429 hK)
theorem tB431 {W : World} (hK : KB W) : TX W pB90 stB400.act stB400.st .normal stB427 := triX_hds (k := 2) (L1 := stB402) (hihB hK) (by kernel_rfl) runB403 (tB430 hK)
theorem tB434 {W : World} (hK : KB W) : TX W pB90 stB427.act stB427.st (.exit 0) stB432 := triX_code (hihB hK) runB433
theorem tB435 {W : World} (hK : KB W) : TX W pB89 stB400.act stB400.st (.exit 0) stB432 := tx_loop (m := 1) (by kernel_rfl) rfl (.next (tB431 hK) (.last (tB434 hK)))
theorem tB436 {W : World} (hK : KB W) : TX W pB88 stB400.act stB400.st .normal stB432 := tx_block (by kernel_rfl) (tB435 hK)
theorem tB437 {W : World} (hK : KB W) : TX W pB87 stB398.act stB398.st .normal stB432 := triX_hds (k := 1) (L1 := stB400) (hihB hK) (by kernel_rfl) runB401 (tB436 hK)
theorem tB440 {W : World} (hK : KB W) : TF W Tryz.f88 pB115 stB432.act stB432.st (vvB217) stB438.st := triFin_code (hihB hK) runB439
theorem tB441 {W : World} (hK : KB W) : TF W Tryz.f88 pB86 stB398.act stB398.st (vvB217) stB438.st := tf_seq (by kernel_rfl) (tB437 hK) (tB440 hK)
theorem tB442 {W : World} (hK : KB W) : TF W Tryz.f88 cdB88 ({ n := 89, t := PT.ofList 0 (PT.nil 8) vsB397, defers := [] }) stB395.st (vvB217) stB438.st := triFin_hds (k := 7) (L1 := stB398) (hihB hK) (by kernel_rfl) runB399 (tB441 hK)
theorem tB443 {W : World} (hK : KB W) : TC W 88 vsB397 stB395.st (vvB217) stB438.st := callT_fin Tryz.func88 bdB88 (by kernel_rfl) (n := 89) (by kernel_rfl) (by kernel_rfl) (tB442 hK)
theorem tB448 {W : World} (hK : KB W) : TX W pB77 stB393.act stB393.st .normal stB446 := by
  refine tx_region (by kernel_rfl) ?_
  refine triOps_cut (i := 0) (j := 3) (L1 := stB395) (hihB hK) (by kernel_rfl) runB396 (by kernel_rfl) ?_
  refine triOps_call (i := 3) (f := 88) (fi := #[]) (ca := #[]) (v := vvB217) (L0 := stB395) (Lc := stB438) (L1 := stB444) rfl rfl (by kernel_rfl) (by kernel_rfl) (by kernel_rfl) (by kernel_rfl) (tB443 hK) runB445 ?_
  exact triOps_end (i := 4) (L1 := stB446) (hihB hK) runB447 (by kernel_rfl)
theorem tB451 {W : World} (hK : KB W) : TX W pB122 stB446.act stB446.st .normal stB449 := triX_code (hihB hK) runB450
theorem tB452 {W : World} (hK : KB W) : TX W pB76 stB393.act stB393.st .normal stB449 := tx_seq (by kernel_rfl) (tB448 hK) (tB451 hK)
theorem tB453 {W : World} (hK : KB W) : TX W pB75 stB391.act stB391.st .normal stB449 := triX_hds (k := 1) (L1 := stB393) (hihB hK) (by kernel_rfl) runB394 (tB452 hK)
theorem tB454 {W : World} (hK : KB W) : TX W pB74 stB391.act stB391.st .normal stB449 := tx_through (by kernel_rfl) (by kernel_rfl) (tB453 hK)
theorem tB457 {W : World} (hK : KB W) : TX W pB124 stB449.act stB449.st .normal stB455 := triX_code (hihB hK) runB456
theorem tB458 {W : World} (hK : KB W) : TX W pB73 stB391.act stB391.st .normal stB455 := tx_seq (by kernel_rfl) (tB454 hK) (tB457 hK)
theorem tB459 {W : World} (hK : KB W) : TX W pB72 stB389.act stB389.st .normal stB455 := triX_hds (k := 2) (L1 := stB391) (hihB hK) (by kernel_rfl) runB392 (tB458 hK)
theorem tB462 {W : World} (hK : KB W) : TX W pB72 stB455.act stB455.st (.exit 0) stB460 := triX_code (hihB hK) runB461
theorem tB463 {W : World} (hK : KB W) : TX W pB71 stB389.act stB389.st (.exit 0) stB460 := tx_loop (m := 1) (by kernel_rfl) rfl (.next (tB459 hK) (.last (tB462 hK)))
theorem tB464 {W : World} (hK : KB W) : TX W pB70 stB389.act stB389.st .normal stB460 := tx_block (by kernel_rfl) (tB463 hK)
theorem tB465 {W : World} (hK : KB W) : TX W pB69 stB387.act stB387.st .normal stB460 := triX_hds (k := 1) (L1 := stB389) (hihB hK) (by kernel_rfl) runB390 (tB464 hK)
theorem tB468 {W : World} (hK : KB W) : TF W Tryz.f62 pB125 stB460.act stB460.st (vvB219) stB466.st := triFin_code (hihB hK) runB467
theorem tB469 {W : World} (hK : KB W) : TF W Tryz.f62 pB68 stB387.act stB387.st (vvB219) stB466.st := tf_seq (by kernel_rfl) (tB465 hK) (tB468 hK)
theorem tB470 {W : World} (hK : KB W) : TF W Tryz.f62 cdB62 ({ n := 46, t := PT.ofList 0 (PT.nil 8) vsB386, defers := [] }) stB384.st (vvB219) stB466.st := triFin_hds (k := 4) (L1 := stB387) (hihB hK) (by kernel_rfl) runB388 (tB469 hK)
theorem tB471 {W : World} (hK : KB W) : TC W 62 vsB386 stB384.st (vvB219) stB466.st := callT_fin Tryz.func62 bdB62 (by kernel_rfl) (n := 46) (by kernel_rfl) (by kernel_rfl) (tB470 hK)
theorem tB476 {W : World} (hK : KB W) : TX W pB67 stB382.act stB382.st .normal stB474 := by
  refine tx_region (by kernel_rfl) ?_
  refine triOps_cut (i := 0) (j := 2) (L1 := stB384) (hihB hK) (by kernel_rfl) runB385 (by kernel_rfl) ?_
  refine triOps_call (i := 2) (f := 62) (fi := #[]) (ca := #[]) (v := vvB219) (L0 := stB384) (Lc := stB466) (L1 := stB472) rfl rfl (by kernel_rfl) (by kernel_rfl) (by kernel_rfl) (by kernel_rfl) (tB471 hK) runB473 ?_
  exact triOps_end (i := 3) (L1 := stB474) (hihB hK) runB475 (by kernel_rfl)
theorem tB479 {W : World} (hK : KB W) : TF W Tryz.f100 pB127 stB474.act stB474.st (.tuple #[.int .i64 2, .int .i64 0]) stB477.st := triFin_code (hihB hK) runB478
theorem tB480 {W : World} (hK : KB W) : TF W Tryz.f100 pB66 stB382.act stB382.st (.tuple #[.int .i64 2, .int .i64 0]) stB477.st := tf_seq (by kernel_rfl) (tB476 hK) (tB479 hK)
theorem tB481 {W : World} (hK : KB W) : TF W Tryz.f100 cdB100 ({ n := 17, t := PT.ofList 0 (PT.nil 8) vsB381, defers := [] }) stB379.st (.tuple #[.int .i64 2, .int .i64 0]) stB477.st := triFin_hds (k := 1) (L1 := stB382) (hihB hK) (by kernel_rfl) runB383 (tB480 hK)
theorem tB482 {W : World} (hK : KB W) : TC W 100 vsB381 stB379.st (.tuple #[.int .i64 2, .int .i64 0]) stB477.st := callT_fin Tryz.func100 bdB100 (by kernel_rfl) (n := 17) (by kernel_rfl) (by kernel_rfl) (tB481 hK)
theorem tB487 {W : World} (hK : KB W) : TX W pB63 stB377.act stB377.st .normal stB485 := by
  refine tx_region (by kernel_rfl) ?_
  refine triOps_cut (i := 0) (j := 3) (L1 := stB379) (hihB hK) (by kernel_rfl) runB380 (by kernel_rfl) ?_
  refine triOps_call (i := 3) (f := 100) (fi := #[]) (ca := #[]) (v := .tuple #[.int .i64 2, .int .i64 0]) (L0 := stB379) (Lc := stB477) (L1 := stB483) rfl rfl (by kernel_rfl) (by kernel_rfl) (by kernel_rfl) (by kernel_rfl) (tB482 hK) runB484 ?_
  exact triOps_end (i := 4) (L1 := stB485) (hihB hK) runB486 (by kernel_rfl)
theorem tB490 {W : World} (hK : KB W) : TX W pB128 stB485.act stB485.st .normal stB488 := triX_code (hihB hK) runB489
theorem tB491 {W : World} (hK : KB W) : TX W pB62 stB377.act stB377.st .normal stB488 := tx_seq (by kernel_rfl) (tB487 hK) (tB490 hK)
theorem tB492 {W : World} (hK : KB W) : TX W pB56 stB375.act stB375.st .normal stB488 := triX_hds (k := 2) (L1 := stB377) (hihB hK) (by kernel_rfl) runB378 (tB491 hK)
theorem tB493 {W : World} (hK : KB W) : TX W pB55 stB375.act stB375.st .normal stB488 := tx_through (by kernel_rfl) (by kernel_rfl) (tB492 hK)
theorem tB496 {W : World} (hK : KB W) : TX W pB130 stB488.act stB488.st .normal stB494 := triX_code (hihB hK) runB495
theorem tB497 {W : World} (hK : KB W) : TX W pB54 stB375.act stB375.st .normal stB494 := tx_seq (by kernel_rfl) (tB493 hK) (tB496 hK)
theorem tB498 {W : World} (hK : KB W) : TX W pB53 stB373.act stB373.st .normal stB494 := triX_hds (k := 2) (L1 := stB375) (hihB hK) (by kernel_rfl) runB376 (tB497 hK)
theorem tB501 {W : World} (hK : KB W) : TX W pB53 stB494.act stB494.st (.exit 0) stB499 := triX_code (hihB hK) runB500
theorem tB502 {W : World} (hK : KB W) : TX W pB52 stB373.act stB373.st (.exit 0) stB499 := tx_loop (m := 1) (by kernel_rfl) rfl (.next (tB498 hK) (.last (tB501 hK)))
theorem tB503 {W : World} (hK : KB W) : TX W pB51 stB373.act stB373.st .normal stB499 := tx_block (by kernel_rfl) (tB502 hK)
theorem tB504 {W : World} (hK : KB W) : TX W pB50 stB371.act stB371.st .normal stB499 := triX_hds (k := 1) (L1 := stB373) (hihB hK) (by kernel_rfl) runB374 (tB503 hK)
theorem tB507 {W : World} (hK : KB W) : TF W Tryz.f82 pB131 stB499.act stB499.st (vvB220) stB505.st := triFin_code (hihB hK) runB506
theorem tB508 {W : World} (hK : KB W) : TF W Tryz.f82 pB49 stB371.act stB371.st (vvB220) stB505.st := tf_seq (by kernel_rfl) (tB504 hK) (tB507 hK)
theorem tB509 {W : World} (hK : KB W) : TF W Tryz.f82 cdB82 ({ n := 52, t := PT.ofList 0 (PT.nil 8) vsB370, defers := [] }) stB368.st (vvB220) stB505.st := triFin_hds (k := 4) (L1 := stB371) (hihB hK) (by kernel_rfl) runB372 (tB508 hK)
theorem tB510 {W : World} (hK : KB W) : TC W 82 vsB370 stB368.st (vvB220) stB505.st := callT_fin Tryz.func82 bdB82 (by kernel_rfl) (n := 52) (by kernel_rfl) (by kernel_rfl) (tB509 hK)
theorem tB515 {W : World} (hK : KB W) : TX W pB46 stB366.act stB366.st .normal stB513 := by
  refine tx_region (by kernel_rfl) ?_
  refine triOps_cut (i := 0) (j := 1) (L1 := stB368) (hihB hK) (by kernel_rfl) runB369 (by kernel_rfl) ?_
  refine triOps_call (i := 1) (f := 82) (fi := #[]) (ca := #[]) (v := vvB220) (L0 := stB368) (Lc := stB505) (L1 := stB511) rfl rfl (by kernel_rfl) (by kernel_rfl) (by kernel_rfl) (by kernel_rfl) (tB510 hK) runB512 ?_
  exact triOps_end (i := 2) (L1 := stB513) (hihB hK) runB514 (by kernel_rfl)
theorem tB518 {W : World} (hK : KB W) : TF W Tryz.f59 pB133 stB513.act stB513.st (.tuple #[.int .i64 2, .int .i64 0]) stB516.st := triFin_code (hihB hK) runB517
theorem tB519 {W : World} (hK : KB W) : TF W Tryz.f59 pB45 stB366.act stB366.st (.tuple #[.int .i64 2, .int .i64 0]) stB516.st := tf_seq (by kernel_rfl) (tB515 hK) (tB518 hK)
theorem tB520 {W : World} (hK : KB W) : TF W Tryz.f59 cdB59 ({ n := 30, t := PT.ofList 0 (PT.nil 8) vsB365, defers := [] }) stB363.st (.tuple #[.int .i64 2, .int .i64 0]) stB516.st := triFin_hds (k := 1) (L1 := stB366) (hihB hK) (by kernel_rfl) runB367 (tB519 hK)
theorem tB521 {W : World} (hK : KB W) : TC W 59 vsB365 stB363.st (.tuple #[.int .i64 2, .int .i64 0]) stB516.st := callT_fin Tryz.func59 bdB59 (by kernel_rfl) (n := 30) (by kernel_rfl) (by kernel_rfl) (tB520 hK)
theorem tB526 {W : World} (hK : KB W) : TX W pB44 stB361.act stB361.st .normal stB524 := by
  refine tx_region (by kernel_rfl) ?_
  refine triOps_cut (i := 0) (j := 1) (L1 := stB363) (hihB hK) (by kernel_rfl) runB364 (by kernel_rfl) ?_
  refine triOps_call (i := 1) (f := 59) (fi := #[]) (ca := #[]) (v := .tuple #[.int .i64 2, .int .i64 0]) (L0 := stB363) (Lc := stB516) (L1 := stB522) rfl rfl (by kernel_rfl) (by kernel_rfl) (by kernel_rfl) (by kernel_rfl) (tB521 hK) runB523 ?_
  exact triOps_end (i := 2) (L1 := stB524) (hihB hK) runB525 (by kernel_rfl)
theorem tB529 {W : World} (hK : KB W) : TX W pB134 stB524.act stB524.st .normal stB527 := triX_code (hihB hK) runB528
theorem tB530 {W : World} (hK : KB W) : TX W pB43 stB361.act stB361.st .normal stB527 := tx_seq (by kernel_rfl) (tB526 hK) (tB529 hK)
theorem tB568 {W : World} (hK : KB W) : TF W Tryz.f110 pB106 stB564.act stB564.st (vvB241) stB566.st := triFin_code (hihB hK) runB567
theorem tB569 {W : World} (hK : KB W) : TF W Tryz.f110 cdB110 ({ n := 62, t := PT.ofList 0 (PT.nil 8) vsB563, defers := [] }) stB561.st (vvB241) stB566.st := triFin_hds (k := 3) (L1 := stB564) (hihB hK) (by kernel_rfl) runB565 (tB568 hK)
theorem tB570 {W : World} (hK : KB W) : TC W 110 vsB563 stB561.st (vvB241) stB566.st := callT_fin Tryz.func110 bdB110 (by kernel_rfl) (n := 62) (by kernel_rfl) (by kernel_rfl) (tB569 hK)
theorem tB575 {W : World} (hK : KB W) : TX W pB95 stB559.act stB559.st .normal stB573 := by
  refine tx_region (by kernel_rfl) ?_
  refine triOps_cut (i := 0) (j := 3) (L1 := stB561) (hihB hK) (by kernel_rfl) runB562 (by kernel_rfl) ?_
  refine triOps_call (i := 3) (f := 110) (fi := #[]) (ca := #[]) (v := vvB241) (L0 := stB561) (Lc := stB566) (L1 := stB571) rfl rfl (by kernel_rfl) (by kernel_rfl) (by kernel_rfl) (by kernel_rfl) (tB570 hK) runB572 ?_
  exact triOps_end (i := 4) (L1 := stB573) (hihB hK) runB574 (by kernel_rfl)
theorem tB578 {W : World} (hK : KB W) : TX W pB113 stB573.act stB573.st .normal stB576 := triX_code (hihB hK) runB577
theorem tB579 {W : World} (hK : KB W) : TX W pB94 stB559.act stB559.st .normal stB576 := tx_seq (by kernel_rfl) (tB575 hK) (tB578 hK)
theorem tB580 {W : World} (hK : KB W) : TX W pB93 stB557.act stB557.st .normal stB576 := triX_hds (k := 1) (L1 := stB559) (hihB hK) (by kernel_rfl) runB560 (tB579 hK)
theorem tB581 {W : World} (hK : KB W) : TX W pB92 stB557.act stB557.st .normal stB576 := tx_through (by kernel_rfl) (by kernel_rfl) (tB580 hK)
theorem tB584 {W : World} (hK : KB W) : TX W pB114 stB576.act stB576.st .normal stB582 := triX_code (hihB hK) runB583
theorem tB585 {W : World} (hK : KB W) : TX W pB91 stB557.act stB557.st .normal stB582 := tx_seq (by kernel_rfl) (tB581 hK) (tB584 hK)
theorem tB586 {W : World} (hK : KB W) : TX W pB90 stB555.act stB555.st .normal stB582 := triX_hds (k := 2) (L1 := stB557) (hihB hK) (by kernel_rfl) runB558 (tB585 hK)
theorem tB589 {W : World} (hK : KB W) : TX W pB90 stB582.act stB582.st (.exit 0) stB587 := triX_code (hihB hK) runB588
theorem tB590 {W : World} (hK : KB W) : TX W pB89 stB555.act stB555.st (.exit 0) stB587 := tx_loop (m := 1) (by kernel_rfl) rfl (.next (tB586 hK) (.last (tB589 hK)))
theorem tB591 {W : World} (hK : KB W) : TX W pB88 stB555.act stB555.st .normal stB587 := tx_block (by kernel_rfl) (tB590 hK)
theorem tB592 {W : World} (hK : KB W) : TX W pB87 stB553.act stB553.st .normal stB587 := triX_hds (k := 1) (L1 := stB555) (hihB hK) (by kernel_rfl) runB556 (tB591 hK)
theorem tB595 {W : World} (hK : KB W) : TF W Tryz.f88 pB115 stB587.act stB587.st (vvB247) stB593.st := triFin_code (hihB hK) runB594
theorem tB596 {W : World} (hK : KB W) : TF W Tryz.f88 pB86 stB553.act stB553.st (vvB247) stB593.st := tf_seq (by kernel_rfl) (tB592 hK) (tB595 hK)
theorem tB597 {W : World} (hK : KB W) : TF W Tryz.f88 cdB88 ({ n := 89, t := PT.ofList 0 (PT.nil 8) vsB552, defers := [] }) stB550.st (vvB247) stB593.st := triFin_hds (k := 7) (L1 := stB553) (hihB hK) (by kernel_rfl) runB554 (tB596 hK)
theorem tB598 {W : World} (hK : KB W) : TC W 88 vsB552 stB550.st (vvB247) stB593.st := callT_fin Tryz.func88 bdB88 (by kernel_rfl) (n := 89) (by kernel_rfl) (by kernel_rfl) (tB597 hK)
theorem tB603 {W : World} (hK : KB W) : TX W pB77 stB548.act stB548.st .normal stB601 := by
  refine tx_region (by kernel_rfl) ?_
  refine triOps_cut (i := 0) (j := 3) (L1 := stB550) (hihB hK) (by kernel_rfl) runB551 (by kernel_rfl) ?_
  refine triOps_call (i := 3) (f := 88) (fi := #[]) (ca := #[]) (v := vvB247) (L0 := stB550) (Lc := stB593) (L1 := stB599) rfl rfl (by kernel_rfl) (by kernel_rfl) (by kernel_rfl) (by kernel_rfl) (tB598 hK) runB600 ?_
  exact triOps_end (i := 4) (L1 := stB601) (hihB hK) runB602 (by kernel_rfl)
theorem tB606 {W : World} (hK : KB W) : TX W pB122 stB601.act stB601.st .normal stB604 := triX_code (hihB hK) runB605
theorem tB607 {W : World} (hK : KB W) : TX W pB76 stB548.act stB548.st .normal stB604 := tx_seq (by kernel_rfl) (tB603 hK) (tB606 hK)
theorem tB608 {W : World} (hK : KB W) : TX W pB75 stB546.act stB546.st .normal stB604 := triX_hds (k := 1) (L1 := stB548) (hihB hK) (by kernel_rfl) runB549 (tB607 hK)
theorem tB609 {W : World} (hK : KB W) : TX W pB74 stB546.act stB546.st .normal stB604 := tx_through (by kernel_rfl) (by kernel_rfl) (tB608 hK)
theorem tB612 {W : World} (hK : KB W) : TX W pB124 stB604.act stB604.st .normal stB610 := triX_code (hihB hK) runB611
theorem tB613 {W : World} (hK : KB W) : TX W pB73 stB546.act stB546.st .normal stB610 := tx_seq (by kernel_rfl) (tB609 hK) (tB612 hK)
theorem tB614 {W : World} (hK : KB W) : TX W pB72 stB544.act stB544.st .normal stB610 := triX_hds (k := 2) (L1 := stB546) (hihB hK) (by kernel_rfl) runB547 (tB613 hK)
theorem tB617 {W : World} (hK : KB W) : TX W pB72 stB610.act stB610.st (.exit 0) stB615 := triX_code (hihB hK) runB616
theorem tB618 {W : World} (hK : KB W) : TX W pB71 stB544.act stB544.st (.exit 0) stB615 := tx_loop (m := 1) (by kernel_rfl) rfl (.next (tB614 hK) (.last (tB617 hK)))
theorem tB619 {W : World} (hK : KB W) : TX W pB70 stB544.act stB544.st .normal stB615 := tx_block (by kernel_rfl) (tB618 hK)
theorem tB620 {W : World} (hK : KB W) : TX W pB69 stB542.act stB542.st .normal stB615 := triX_hds (k := 1) (L1 := stB544) (hihB hK) (by kernel_rfl) runB545 (tB619 hK)
theorem tB623 {W : World} (hK : KB W) : TF W Tryz.f62 pB125 stB615.act stB615.st (vvB249) stB621.st := triFin_code (hihB hK) runB622
theorem tB624 {W : World} (hK : KB W) : TF W Tryz.f62 pB68 stB542.act stB542.st (vvB249) stB621.st := tf_seq (by kernel_rfl) (tB620 hK) (tB623 hK)
theorem tB625 {W : World} (hK : KB W) : TF W Tryz.f62 cdB62 ({ n := 46, t := PT.ofList 0 (PT.nil 8) vsB541, defers := [] }) stB539.st (vvB249) stB621.st := triFin_hds (k := 4) (L1 := stB542) (hihB hK) (by kernel_rfl) runB543 (tB624 hK)
theorem tB626 {W : World} (hK : KB W) : TC W 62 vsB541 stB539.st (vvB249) stB621.st := callT_fin Tryz.func62 bdB62 (by kernel_rfl) (n := 46) (by kernel_rfl) (by kernel_rfl) (tB625 hK)
theorem tB631 {W : World} (hK : KB W) : TX W pB149 stB537.act stB537.st .normal stB629 := by
  refine tx_region (by kernel_rfl) ?_
  refine triOps_cut (i := 0) (j := 5) (L1 := stB539) (hihB hK) (by kernel_rfl) runB540 (by kernel_rfl) ?_
  refine triOps_call (i := 5) (f := 62) (fi := #[]) (ca := #[]) (v := vvB249) (L0 := stB539) (Lc := stB621) (L1 := stB627) rfl rfl (by kernel_rfl) (by kernel_rfl) (by kernel_rfl) (by kernel_rfl) (tB626 hK) runB628 ?_
  exact triOps_end (i := 6) (L1 := stB629) (hihB hK) runB630 (by kernel_rfl)
theorem tB632 {W : World} (hK : KB W) : TX W pB145 stB535.act stB535.st .normal stB629 := triX_hds (k := 2) (L1 := stB537) (hihB hK) (by kernel_rfl) runB538 (tB631 hK)
theorem tB633 {W : World} (hK : KB W) : TX W pB144 stB535.act stB535.st .normal stB629 := tx_through (by kernel_rfl) (by kernel_rfl) (tB632 hK)
theorem tB636 {W : World} (hK : KB W) : TX W pB176 stB629.act stB629.st .normal stB634 := triX_code (hihB hK) runB635
theorem tB637 {W : World} (hK : KB W) : TX W pB143 stB535.act stB535.st .normal stB634 := tx_seq (by kernel_rfl) (tB633 hK) (tB636 hK)
theorem tB638 {W : World} (hK : KB W) : TX W pB142 stB533.act stB533.st .normal stB634 := triX_hds (k := 2) (L1 := stB535) (hihB hK) (by kernel_rfl) runB536 (tB637 hK)
theorem tB641 {W : World} (hK : KB W) : TX W pB142 stB634.act stB634.st (.exit 0) stB639 := triX_code (hihB hK) runB640
theorem tB642 {W : World} (hK : KB W) : TX W pB141 stB533.act stB533.st (.exit 0) stB639 := tx_loop (m := 1) (by kernel_rfl) rfl (.next (tB638 hK) (.last (tB641 hK)))
theorem tB643 {W : World} (hK : KB W) : TX W pB140 stB533.act stB533.st .normal stB639 := tx_block (by kernel_rfl) (tB642 hK)
theorem tB644 {W : World} (hK : KB W) : TX W pB139 stB531.act stB531.st .normal stB639 := triX_hds (k := 1) (L1 := stB533) (hihB hK) (by kernel_rfl) runB534 (tB643 hK)
theorem tB647 {W : World} (hK : KB W) : TF W Tryz.f44 pB177 stB639.act stB639.st (vvB252) stB645.st := triFin_code (hihB hK) runB646
theorem tB648 {W : World} (hK : KB W) : TF W Tryz.f44 pB138 stB531.act stB531.st (vvB252) stB645.st := tf_seq (by kernel_rfl) (tB644 hK) (tB647 hK)
theorem tB649 {W : World} (hK : KB W) : TF W Tryz.f44 pB135 stB527.act stB527.st (vvB252) stB645.st := triFin_hds (k := 2) (L1 := stB531) (hihB hK) (by kernel_rfl) runB532 (tB648 hK)
theorem tB650 {W : World} (hK : KB W) : TF W Tryz.f44 pB42 stB361.act stB361.st (vvB252) stB645.st := tf_seq (by kernel_rfl) (tB530 hK) (tB649 hK)
theorem tB651 {W : World} (hK : KB W) : TF W Tryz.f44 cdB44 ({ n := 66, t := PT.ofList 0 (PT.nil 8) vsB360, defers := [] }) stB358.st (vvB252) stB645.st := triFin_hds (k := 1) (L1 := stB361) (hihB hK) (by kernel_rfl) runB362 (tB650 hK)
theorem tB652 {W : World} (hK : KB W) : TC W 44 vsB360 stB358.st (vvB252) stB645.st := callT_fin Tryz.func44 bdB44 (by kernel_rfl) (n := 66) (by kernel_rfl) (by kernel_rfl) (tB651 hK)
theorem tB657 {W : World} (hK : KB W) : TX W pB190 stB356.act stB356.st .normal stB655 := by
  refine tx_region (by kernel_rfl) ?_
  refine triOps_cut (i := 0) (j := 1) (L1 := stB358) (hihB hK) (by kernel_rfl) runB359 (by kernel_rfl) ?_
  refine triOps_call (i := 1) (f := 44) (fi := #[]) (ca := #[]) (v := vvB252) (L0 := stB358) (Lc := stB645) (L1 := stB653) rfl rfl (by kernel_rfl) (by kernel_rfl) (by kernel_rfl) (by kernel_rfl) (tB652 hK) runB654 ?_
  exact triOps_end (i := 2) (L1 := stB655) (hihB hK) runB656 (by kernel_rfl)
theorem tB666 {W : World} (hK : KB W) : TX W pB256 stB662.act stB662.st (.exit 2) stB664 := triX_code (hihB hK) runB665
theorem tB667 {W : World} (hK : KB W) : TX W pB255 stB658.act stB658.st (.exit 2) stB664 := tx_loop (m := 2) (by kernel_rfl) rfl (rounds_run (hihB hK) runB661 (rounds_run (hihB hK) runB663 (.last (tB666 hK))))
theorem tB668 {W : World} (hK : KB W) : TX W pB254 stB658.act stB658.st .normal stB664 := tx_block (by kernel_rfl) (tB667 hK)
theorem tB669 {W : World} (hK : KB W) : TX W pB253 stB655.act stB655.st .normal stB664 := triX_hds (k := 2) (L1 := stB658) (hihB hK) (by kernel_rfl) runB659 (tB668 hK)
theorem tB670 {W : World} (hK : KB W) : TX W pB189 stB356.act stB356.st .normal stB664 := tx_seq (by kernel_rfl) (tB657 hK) (tB669 hK)
theorem tB671 {W : World} (hK : KB W) : TX W pB188 stB353.act stB353.st .normal stB664 := triX_hds (k := 2) (L1 := stB356) (hihB hK) (by kernel_rfl) runB357 (tB670 hK)
theorem tB672 {W : World} (hK : KB W) : TX W pB36 stB22.act stB22.st .normal stB664 := tx_seq (by kernel_rfl) (tB355 hK) (tB671 hK)
theorem tB673 {W : World} (hK : KB W) : TX W pB33 stB20.act stB20.st .normal stB664 := triX_hds (k := 1) (L1 := stB22) (hihB hK) (by kernel_rfl) runB23 (tB672 hK)
theorem tB674 {W : World} (hK : KB W) : TX W pB32 stB20.act stB20.st .normal stB664 := tx_through (by kernel_rfl) (by kernel_rfl) (tB673 hK)
theorem tB677 {W : World} (hK : KB W) : TX W pB271 stB664.act stB664.st .normal stB675 := triX_code (hihB hK) runB676
theorem tB678 {W : World} (hK : KB W) : TX W pB31 stB20.act stB20.st .normal stB675 := tx_seq (by kernel_rfl) (tB674 hK) (tB677 hK)
theorem tB679 {W : World} (hK : KB W) : TX W pB30 stB18.act stB18.st .normal stB675 := triX_hds (k := 2) (L1 := stB20) (hihB hK) (by kernel_rfl) runB21 (tB678 hK)
theorem tB749 {W : World} (hK : KB W) : TF W Tryz.f110 pB106 stB745.act stB745.st (vvB301) stB747.st := triFin_code (hihB hK) runB748
theorem tB750 {W : World} (hK : KB W) : TF W Tryz.f110 cdB110 ({ n := 62, t := PT.ofList 0 (PT.nil 8) vsB744, defers := [] }) stB742.st (vvB301) stB747.st := triFin_hds (k := 3) (L1 := stB745) (hihB hK) (by kernel_rfl) runB746 (tB749 hK)
theorem tB751 {W : World} (hK : KB W) : TC W 110 vsB744 stB742.st (vvB301) stB747.st := callT_fin Tryz.func110 bdB110 (by kernel_rfl) (n := 62) (by kernel_rfl) (by kernel_rfl) (tB750 hK)
theorem tB756 {W : World} (hK : KB W) : TX W pB95 stB740.act stB740.st .normal stB754 := by
  refine tx_region (by kernel_rfl) ?_
  refine triOps_cut (i := 0) (j := 3) (L1 := stB742) (hihB hK) (by kernel_rfl) runB743 (by kernel_rfl) ?_
  refine triOps_call (i := 3) (f := 110) (fi := #[]) (ca := #[]) (v := vvB301) (L0 := stB742) (Lc := stB747) (L1 := stB752) rfl rfl (by kernel_rfl) (by kernel_rfl) (by kernel_rfl) (by kernel_rfl) (tB751 hK) runB753 ?_
  exact triOps_end (i := 4) (L1 := stB754) (hihB hK) runB755 (by kernel_rfl)
theorem tB759 {W : World} (hK : KB W) : TX W pB113 stB754.act stB754.st .normal stB757 := triX_code (hihB hK) runB758
theorem tB760 {W : World} (hK : KB W) : TX W pB94 stB740.act stB740.st .normal stB757 := tx_seq (by kernel_rfl) (tB756 hK) (tB759 hK)
theorem tB761 {W : World} (hK : KB W) : TX W pB93 stB738.act stB738.st .normal stB757 := triX_hds (k := 1) (L1 := stB740) (hihB hK) (by kernel_rfl) runB741 (tB760 hK)
theorem tB762 {W : World} (hK : KB W) : TX W pB92 stB738.act stB738.st .normal stB757 := tx_through (by kernel_rfl) (by kernel_rfl) (tB761 hK)
theorem tB765 {W : World} (hK : KB W) : TX W pB114 stB757.act stB757.st .normal stB763 := triX_code (hihB hK) runB764
theorem tB766 {W : World} (hK : KB W) : TX W pB91 stB738.act stB738.st .normal stB763 := tx_seq (by kernel_rfl) (tB762 hK) (tB765 hK)
theorem tB767 {W : World} (hK : KB W) : TX W pB90 stB736.act stB736.st .normal stB763 := triX_hds (k := 2) (L1 := stB738) (hihB hK) (by kernel_rfl) runB739 (tB766 hK)
theorem tB770 {W : World} (hK : KB W) : TX W pB90 stB763.act stB763.st (.exit 0) stB768 := triX_code (hihB hK) runB769
theorem tB771 {W : World} (hK : KB W) : TX W pB89 stB736.act stB736.st (.exit 0) stB768 := tx_loop (m := 1) (by kernel_rfl) rfl (.next (tB767 hK) (.last (tB770 hK)))
theorem tB772 {W : World} (hK : KB W) : TX W pB88 stB736.act stB736.st .normal stB768 := tx_block (by kernel_rfl) (tB771 hK)
theorem tB773 {W : World} (hK : KB W) : TX W pB87 stB734.act stB734.st .normal stB768 := triX_hds (k := 1) (L1 := stB736) (hihB hK) (by kernel_rfl) runB737 (tB772 hK)
theorem tB776 {W : World} (hK : KB W) : TF W Tryz.f88 pB115 stB768.act stB768.st (vvB307) stB774.st := triFin_code (hihB hK) runB775
theorem tB777 {W : World} (hK : KB W) : TF W Tryz.f88 pB86 stB734.act stB734.st (vvB307) stB774.st := tf_seq (by kernel_rfl) (tB773 hK) (tB776 hK)
theorem tB778 {W : World} (hK : KB W) : TF W Tryz.f88 cdB88 ({ n := 89, t := PT.ofList 0 (PT.nil 8) vsB733, defers := [] }) stB731.st (vvB307) stB774.st := triFin_hds (k := 7) (L1 := stB734) (hihB hK) (by kernel_rfl) runB735 (tB777 hK)
theorem tB779 {W : World} (hK : KB W) : TC W 88 vsB733 stB731.st (vvB307) stB774.st := callT_fin Tryz.func88 bdB88 (by kernel_rfl) (n := 89) (by kernel_rfl) (by kernel_rfl) (tB778 hK)
theorem tB784 {W : World} (hK : KB W) : TX W pB77 stB729.act stB729.st .normal stB782 := by
  refine tx_region (by kernel_rfl) ?_
  refine triOps_cut (i := 0) (j := 3) (L1 := stB731) (hihB hK) (by kernel_rfl) runB732 (by kernel_rfl) ?_
  refine triOps_call (i := 3) (f := 88) (fi := #[]) (ca := #[]) (v := vvB307) (L0 := stB731) (Lc := stB774) (L1 := stB780) rfl rfl (by kernel_rfl) (by kernel_rfl) (by kernel_rfl) (by kernel_rfl) (tB779 hK) runB781 ?_
  exact triOps_end (i := 4) (L1 := stB782) (hihB hK) runB783 (by kernel_rfl)
theorem tB787 {W : World} (hK : KB W) : TX W pB122 stB782.act stB782.st .normal stB785 := triX_code (hihB hK) runB786
theorem tB788 {W : World} (hK : KB W) : TX W pB76 stB729.act stB729.st .normal stB785 := tx_seq (by kernel_rfl) (tB784 hK) (tB787 hK)
theorem tB789 {W : World} (hK : KB W) : TX W pB75 stB727.act stB727.st .normal stB785 := triX_hds (k := 1) (L1 := stB729) (hihB hK) (by kernel_rfl) runB730 (tB788 hK)
theorem tB790 {W : World} (hK : KB W) : TX W pB74 stB727.act stB727.st .normal stB785 := tx_through (by kernel_rfl) (by kernel_rfl) (tB789 hK)
theorem tB793 {W : World} (hK : KB W) : TX W pB124 stB785.act stB785.st .normal stB791 := triX_code (hihB hK) runB792
theorem tB794 {W : World} (hK : KB W) : TX W pB73 stB727.act stB727.st .normal stB791 := tx_seq (by kernel_rfl) (tB790 hK) (tB793 hK)
theorem tB795 {W : World} (hK : KB W) : TX W pB72 stB725.act stB725.st .normal stB791 := triX_hds (k := 2) (L1 := stB727) (hihB hK) (by kernel_rfl) runB728 (tB794 hK)
theorem tB798 {W : World} (hK : KB W) : TX W pB72 stB791.act stB791.st (.exit 0) stB796 := triX_code (hihB hK) runB797
theorem tB799 {W : World} (hK : KB W) : TX W pB71 stB725.act stB725.st (.exit 0) stB796 := tx_loop (m := 1) (by kernel_rfl) rfl (.next (tB795 hK) (.last (tB798 hK)))
theorem tB800 {W : World} (hK : KB W) : TX W pB70 stB725.act stB725.st .normal stB796 := tx_block (by kernel_rfl) (tB799 hK)
theorem tB801 {W : World} (hK : KB W) : TX W pB69 stB723.act stB723.st .normal stB796 := triX_hds (k := 1) (L1 := stB725) (hihB hK) (by kernel_rfl) runB726 (tB800 hK)
theorem tB804 {W : World} (hK : KB W) : TF W Tryz.f62 pB125 stB796.act stB796.st (vvB309) stB802.st := triFin_code (hihB hK) runB803
theorem tB805 {W : World} (hK : KB W) : TF W Tryz.f62 pB68 stB723.act stB723.st (vvB309) stB802.st := tf_seq (by kernel_rfl) (tB801 hK) (tB804 hK)
theorem tB806 {W : World} (hK : KB W) : TF W Tryz.f62 cdB62 ({ n := 46, t := PT.ofList 0 (PT.nil 8) vsB722, defers := [] }) stB720.st (vvB309) stB802.st := triFin_hds (k := 4) (L1 := stB723) (hihB hK) (by kernel_rfl) runB724 (tB805 hK)
theorem tB807 {W : World} (hK : KB W) : TC W 62 vsB722 stB720.st (vvB309) stB802.st := callT_fin Tryz.func62 bdB62 (by kernel_rfl) (n := 46) (by kernel_rfl) (by kernel_rfl) (tB806 hK)
theorem tB812 {W : World} (hK : KB W) : TX W pB67 stB718.act stB718.st .normal stB810 := by
  refine tx_region (by kernel_rfl) ?_
  refine triOps_cut (i := 0) (j := 2) (L1 := stB720) (hihB hK) (by kernel_rfl) runB721 (by kernel_rfl) ?_
  refine triOps_call (i := 2) (f := 62) (fi := #[]) (ca := #[]) (v := vvB309) (L0 := stB720) (Lc := stB802) (L1 := stB808) rfl rfl (by kernel_rfl) (by kernel_rfl) (by kernel_rfl) (by kernel_rfl) (tB807 hK) runB809 ?_
  exact triOps_end (i := 3) (L1 := stB810) (hihB hK) runB811 (by kernel_rfl)
theorem tB815 {W : World} (hK : KB W) : TF W Tryz.f100 pB127 stB810.act stB810.st (.tuple #[.int .i64 2, .int .i64 0]) stB813.st := triFin_code (hihB hK) runB814
theorem tB816 {W : World} (hK : KB W) : TF W Tryz.f100 pB66 stB718.act stB718.st (.tuple #[.int .i64 2, .int .i64 0]) stB813.st := tf_seq (by kernel_rfl) (tB812 hK) (tB815 hK)
theorem tB817 {W : World} (hK : KB W) : TF W Tryz.f100 cdB100 ({ n := 17, t := PT.ofList 0 (PT.nil 8) vsB717, defers := [] }) stB715.st (.tuple #[.int .i64 2, .int .i64 0]) stB813.st := triFin_hds (k := 1) (L1 := stB718) (hihB hK) (by kernel_rfl) runB719 (tB816 hK)
theorem tB818 {W : World} (hK : KB W) : TC W 100 vsB717 stB715.st (.tuple #[.int .i64 2, .int .i64 0]) stB813.st := callT_fin Tryz.func100 bdB100 (by kernel_rfl) (n := 17) (by kernel_rfl) (by kernel_rfl) (tB817 hK)
theorem tB823 {W : World} (hK : KB W) : TX W pB63 stB713.act stB713.st .normal stB821 := by
  refine tx_region (by kernel_rfl) ?_
  refine triOps_cut (i := 0) (j := 3) (L1 := stB715) (hihB hK) (by kernel_rfl) runB716 (by kernel_rfl) ?_
  refine triOps_call (i := 3) (f := 100) (fi := #[]) (ca := #[]) (v := .tuple #[.int .i64 2, .int .i64 0]) (L0 := stB715) (Lc := stB813) (L1 := stB819) rfl rfl (by kernel_rfl) (by kernel_rfl) (by kernel_rfl) (by kernel_rfl) (tB818 hK) runB820 ?_
  exact triOps_end (i := 4) (L1 := stB821) (hihB hK) runB822 (by kernel_rfl)
theorem tB826 {W : World} (hK : KB W) : TX W pB128 stB821.act stB821.st .normal stB824 := triX_code (hihB hK) runB825
theorem tB827 {W : World} (hK : KB W) : TX W pB62 stB713.act stB713.st .normal stB824 := tx_seq (by kernel_rfl) (tB823 hK) (tB826 hK)
theorem tB828 {W : World} (hK : KB W) : TX W pB56 stB711.act stB711.st .normal stB824 := triX_hds (k := 2) (L1 := stB713) (hihB hK) (by kernel_rfl) runB714 (tB827 hK)
theorem tB829 {W : World} (hK : KB W) : TX W pB55 stB711.act stB711.st .normal stB824 := tx_through (by kernel_rfl) (by kernel_rfl) (tB828 hK)
theorem tB832 {W : World} (hK : KB W) : TX W pB130 stB824.act stB824.st .normal stB830 := triX_code (hihB hK) runB831
theorem tB833 {W : World} (hK : KB W) : TX W pB54 stB711.act stB711.st .normal stB830 := tx_seq (by kernel_rfl) (tB829 hK) (tB832 hK)
theorem tB834 {W : World} (hK : KB W) : TX W pB53 stB709.act stB709.st .normal stB830 := triX_hds (k := 2) (L1 := stB711) (hihB hK) (by kernel_rfl) runB712 (tB833 hK)
theorem tB837 {W : World} (hK : KB W) : TX W pB53 stB830.act stB830.st (.exit 0) stB835 := triX_code (hihB hK) runB836
theorem tB838 {W : World} (hK : KB W) : TX W pB52 stB709.act stB709.st (.exit 0) stB835 := tx_loop (m := 1) (by kernel_rfl) rfl (.next (tB834 hK) (.last (tB837 hK)))
theorem tB839 {W : World} (hK : KB W) : TX W pB51 stB709.act stB709.st .normal stB835 := tx_block (by kernel_rfl) (tB838 hK)
theorem tB840 {W : World} (hK : KB W) : TX W pB50 stB707.act stB707.st .normal stB835 := triX_hds (k := 1) (L1 := stB709) (hihB hK) (by kernel_rfl) runB710 (tB839 hK)
theorem tB843 {W : World} (hK : KB W) : TF W Tryz.f82 pB131 stB835.act stB835.st (vvB310) stB841.st := triFin_code (hihB hK) runB842
theorem tB844 {W : World} (hK : KB W) : TF W Tryz.f82 pB49 stB707.act stB707.st (vvB310) stB841.st := tf_seq (by kernel_rfl) (tB840 hK) (tB843 hK)
theorem tB845 {W : World} (hK : KB W) : TF W Tryz.f82 cdB82 ({ n := 52, t := PT.ofList 0 (PT.nil 8) vsB706, defers := [] }) stB704.st (vvB310) stB841.st := triFin_hds (k := 4) (L1 := stB707) (hihB hK) (by kernel_rfl) runB708 (tB844 hK)
theorem tB846 {W : World} (hK : KB W) : TC W 82 vsB706 stB704.st (vvB310) stB841.st := callT_fin Tryz.func82 bdB82 (by kernel_rfl) (n := 52) (by kernel_rfl) (by kernel_rfl) (tB845 hK)
theorem tB851 {W : World} (hK : KB W) : TX W pB46 stB702.act stB702.st .normal stB849 := by
  refine tx_region (by kernel_rfl) ?_
  refine triOps_cut (i := 0) (j := 1) (L1 := stB704) (hihB hK) (by kernel_rfl) runB705 (by kernel_rfl) ?_
  refine triOps_call (i := 1) (f := 82) (fi := #[]) (ca := #[]) (v := vvB310) (L0 := stB704) (Lc := stB841) (L1 := stB847) rfl rfl (by kernel_rfl) (by kernel_rfl) (by kernel_rfl) (by kernel_rfl) (tB846 hK) runB848 ?_
  exact triOps_end (i := 2) (L1 := stB849) (hihB hK) runB850 (by kernel_rfl)
theorem tB854 {W : World} (hK : KB W) : TF W Tryz.f59 pB133 stB849.act stB849.st (.tuple #[.int .i64 2, .int .i64 0]) stB852.st := triFin_code (hihB hK) runB853
theorem tB855 {W : World} (hK : KB W) : TF W Tryz.f59 pB45 stB702.act stB702.st (.tuple #[.int .i64 2, .int .i64 0]) stB852.st := tf_seq (by kernel_rfl) (tB851 hK) (tB854 hK)
theorem tB856 {W : World} (hK : KB W) : TF W Tryz.f59 cdB59 ({ n := 30, t := PT.ofList 0 (PT.nil 8) vsB701, defers := [] }) stB699.st (.tuple #[.int .i64 2, .int .i64 0]) stB852.st := triFin_hds (k := 1) (L1 := stB702) (hihB hK) (by kernel_rfl) runB703 (tB855 hK)
theorem tB857 {W : World} (hK : KB W) : TC W 59 vsB701 stB699.st (.tuple #[.int .i64 2, .int .i64 0]) stB852.st := callT_fin Tryz.func59 bdB59 (by kernel_rfl) (n := 30) (by kernel_rfl) (by kernel_rfl) (tB856 hK)
theorem tB862 {W : World} (hK : KB W) : TX W pB44 stB697.act stB697.st .normal stB860 := by
  refine tx_region (by kernel_rfl) ?_
  refine triOps_cut (i := 0) (j := 1) (L1 := stB699) (hihB hK) (by kernel_rfl) runB700 (by kernel_rfl) ?_
  refine triOps_call (i := 1) (f := 59) (fi := #[]) (ca := #[]) (v := .tuple #[.int .i64 2, .int .i64 0]) (L0 := stB699) (Lc := stB852) (L1 := stB858) rfl rfl (by kernel_rfl) (by kernel_rfl) (by kernel_rfl) (by kernel_rfl) (tB857 hK) runB859 ?_
  exact triOps_end (i := 2) (L1 := stB860) (hihB hK) runB861 (by kernel_rfl)
theorem tB865 {W : World} (hK : KB W) : TX W pB134 stB860.act stB860.st .normal stB863 := triX_code (hihB hK) runB864
theorem tB866 {W : World} (hK : KB W) : TX W pB43 stB697.act stB697.st .normal stB863 := tx_seq (by kernel_rfl) (tB862 hK) (tB865 hK)
theorem tB904 {W : World} (hK : KB W) : TF W Tryz.f110 pB106 stB900.act stB900.st (vvB331) stB902.st := triFin_code (hihB hK) runB903
theorem tB905 {W : World} (hK : KB W) : TF W Tryz.f110 cdB110 ({ n := 62, t := PT.ofList 0 (PT.nil 8) vsB899, defers := [] }) stB897.st (vvB331) stB902.st := triFin_hds (k := 3) (L1 := stB900) (hihB hK) (by kernel_rfl) runB901 (tB904 hK)
theorem tB906 {W : World} (hK : KB W) : TC W 110 vsB899 stB897.st (vvB331) stB902.st := callT_fin Tryz.func110 bdB110 (by kernel_rfl) (n := 62) (by kernel_rfl) (by kernel_rfl) (tB905 hK)
theorem tB911 {W : World} (hK : KB W) : TX W pB95 stB895.act stB895.st .normal stB909 := by
  refine tx_region (by kernel_rfl) ?_
  refine triOps_cut (i := 0) (j := 3) (L1 := stB897) (hihB hK) (by kernel_rfl) runB898 (by kernel_rfl) ?_
  refine triOps_call (i := 3) (f := 110) (fi := #[]) (ca := #[]) (v := vvB331) (L0 := stB897) (Lc := stB902) (L1 := stB907) rfl rfl (by kernel_rfl) (by kernel_rfl) (by kernel_rfl) (by kernel_rfl) (tB906 hK) runB908 ?_
  exact triOps_end (i := 4) (L1 := stB909) (hihB hK) runB910 (by kernel_rfl)
theorem tB914 {W : World} (hK : KB W) : TX W pB113 stB909.act stB909.st .normal stB912 := triX_code (hihB hK) runB913
theorem tB915 {W : World} (hK : KB W) : TX W pB94 stB895.act stB895.st .normal stB912 := tx_seq (by kernel_rfl) (tB911 hK) (tB914 hK)
theorem tB916 {W : World} (hK : KB W) : TX W pB93 stB893.act stB893.st .normal stB912 := triX_hds (k := 1) (L1 := stB895) (hihB hK) (by kernel_rfl) runB896 (tB915 hK)
theorem tB917 {W : World} (hK : KB W) : TX W pB92 stB893.act stB893.st .normal stB912 := tx_through (by kernel_rfl) (by kernel_rfl) (tB916 hK)
theorem tB920 {W : World} (hK : KB W) : TX W pB114 stB912.act stB912.st .normal stB918 := triX_code (hihB hK) runB919
theorem tB921 {W : World} (hK : KB W) : TX W pB91 stB893.act stB893.st .normal stB918 := tx_seq (by kernel_rfl) (tB917 hK) (tB920 hK)
theorem tB922 {W : World} (hK : KB W) : TX W pB90 stB891.act stB891.st .normal stB918 := triX_hds (k := 2) (L1 := stB893) (hihB hK) (by kernel_rfl) runB894 (tB921 hK)
theorem tB925 {W : World} (hK : KB W) : TX W pB90 stB918.act stB918.st (.exit 0) stB923 := triX_code (hihB hK) runB924
theorem tB926 {W : World} (hK : KB W) : TX W pB89 stB891.act stB891.st (.exit 0) stB923 := tx_loop (m := 1) (by kernel_rfl) rfl (.next (tB922 hK) (.last (tB925 hK)))
theorem tB927 {W : World} (hK : KB W) : TX W pB88 stB891.act stB891.st .normal stB923 := tx_block (by kernel_rfl) (tB926 hK)
theorem tB928 {W : World} (hK : KB W) : TX W pB87 stB889.act stB889.st .normal stB923 := triX_hds (k := 1) (L1 := stB891) (hihB hK) (by kernel_rfl) runB892 (tB927 hK)
theorem tB931 {W : World} (hK : KB W) : TF W Tryz.f88 pB115 stB923.act stB923.st (vvB337) stB929.st := triFin_code (hihB hK) runB930
theorem tB932 {W : World} (hK : KB W) : TF W Tryz.f88 pB86 stB889.act stB889.st (vvB337) stB929.st := tf_seq (by kernel_rfl) (tB928 hK) (tB931 hK)
theorem tB933 {W : World} (hK : KB W) : TF W Tryz.f88 cdB88 ({ n := 89, t := PT.ofList 0 (PT.nil 8) vsB888, defers := [] }) stB886.st (vvB337) stB929.st := triFin_hds (k := 7) (L1 := stB889) (hihB hK) (by kernel_rfl) runB890 (tB932 hK)
theorem tB934 {W : World} (hK : KB W) : TC W 88 vsB888 stB886.st (vvB337) stB929.st := callT_fin Tryz.func88 bdB88 (by kernel_rfl) (n := 89) (by kernel_rfl) (by kernel_rfl) (tB933 hK)
theorem tB939 {W : World} (hK : KB W) : TX W pB77 stB884.act stB884.st .normal stB937 := by
  refine tx_region (by kernel_rfl) ?_
  refine triOps_cut (i := 0) (j := 3) (L1 := stB886) (hihB hK) (by kernel_rfl) runB887 (by kernel_rfl) ?_
  refine triOps_call (i := 3) (f := 88) (fi := #[]) (ca := #[]) (v := vvB337) (L0 := stB886) (Lc := stB929) (L1 := stB935) rfl rfl (by kernel_rfl) (by kernel_rfl) (by kernel_rfl) (by kernel_rfl) (tB934 hK) runB936 ?_
  exact triOps_end (i := 4) (L1 := stB937) (hihB hK) runB938 (by kernel_rfl)
theorem tB942 {W : World} (hK : KB W) : TX W pB122 stB937.act stB937.st .normal stB940 := triX_code (hihB hK) runB941
theorem tB943 {W : World} (hK : KB W) : TX W pB76 stB884.act stB884.st .normal stB940 := tx_seq (by kernel_rfl) (tB939 hK) (tB942 hK)
theorem tB944 {W : World} (hK : KB W) : TX W pB75 stB882.act stB882.st .normal stB940 := triX_hds (k := 1) (L1 := stB884) (hihB hK) (by kernel_rfl) runB885 (tB943 hK)
theorem tB945 {W : World} (hK : KB W) : TX W pB74 stB882.act stB882.st .normal stB940 := tx_through (by kernel_rfl) (by kernel_rfl) (tB944 hK)
theorem tB948 {W : World} (hK : KB W) : TX W pB124 stB940.act stB940.st .normal stB946 := triX_code (hihB hK) runB947
theorem tB949 {W : World} (hK : KB W) : TX W pB73 stB882.act stB882.st .normal stB946 := tx_seq (by kernel_rfl) (tB945 hK) (tB948 hK)
theorem tB950 {W : World} (hK : KB W) : TX W pB72 stB880.act stB880.st .normal stB946 := triX_hds (k := 2) (L1 := stB882) (hihB hK) (by kernel_rfl) runB883 (tB949 hK)
theorem tB953 {W : World} (hK : KB W) : TX W pB72 stB946.act stB946.st (.exit 0) stB951 := triX_code (hihB hK) runB952
theorem tB954 {W : World} (hK : KB W) : TX W pB71 stB880.act stB880.st (.exit 0) stB951 := tx_loop (m := 1) (by kernel_rfl) rfl (.next (tB950 hK) (.last (tB953 hK)))
theorem tB955 {W : World} (hK : KB W) : TX W pB70 stB880.act stB880.st .normal stB951 := tx_block (by kernel_rfl) (tB954 hK)
theorem tB956 {W : World} (hK : KB W) : TX W pB69 stB878.act stB878.st .normal stB951 := triX_hds (k := 1) (L1 := stB880) (hihB hK) (by kernel_rfl) runB881 (tB955 hK)
theorem tB959 {W : World} (hK : KB W) : TF W Tryz.f62 pB125 stB951.act stB951.st (vvB339) stB957.st := triFin_code (hihB hK) runB958
theorem tB960 {W : World} (hK : KB W) : TF W Tryz.f62 pB68 stB878.act stB878.st (vvB339) stB957.st := tf_seq (by kernel_rfl) (tB956 hK) (tB959 hK)
theorem tB961 {W : World} (hK : KB W) : TF W Tryz.f62 cdB62 ({ n := 46, t := PT.ofList 0 (PT.nil 8) vsB877, defers := [] }) stB875.st (vvB339) stB957.st := triFin_hds (k := 4) (L1 := stB878) (hihB hK) (by kernel_rfl) runB879 (tB960 hK)
theorem tB962 {W : World} (hK : KB W) : TC W 62 vsB877 stB875.st (vvB339) stB957.st := callT_fin Tryz.func62 bdB62 (by kernel_rfl) (n := 46) (by kernel_rfl) (by kernel_rfl) (tB961 hK)
theorem tB967 {W : World} (hK : KB W) : TX W pB149 stB873.act stB873.st .normal stB965 := by
  refine tx_region (by kernel_rfl) ?_
  refine triOps_cut (i := 0) (j := 5) (L1 := stB875) (hihB hK) (by kernel_rfl) runB876 (by kernel_rfl) ?_
  refine triOps_call (i := 5) (f := 62) (fi := #[]) (ca := #[]) (v := vvB339) (L0 := stB875) (Lc := stB957) (L1 := stB963) rfl rfl (by kernel_rfl) (by kernel_rfl) (by kernel_rfl) (by kernel_rfl) (tB962 hK) runB964 ?_
  exact triOps_end (i := 6) (L1 := stB965) (hihB hK) runB966 (by kernel_rfl)
theorem tB968 {W : World} (hK : KB W) : TX W pB145 stB871.act stB871.st .normal stB965 := triX_hds (k := 2) (L1 := stB873) (hihB hK) (by kernel_rfl) runB874 (tB967 hK)
theorem tB969 {W : World} (hK : KB W) : TX W pB144 stB871.act stB871.st .normal stB965 := tx_through (by kernel_rfl) (by kernel_rfl) (tB968 hK)
theorem tB972 {W : World} (hK : KB W) : TX W pB176 stB965.act stB965.st .normal stB970 := triX_code (hihB hK) runB971
theorem tB973 {W : World} (hK : KB W) : TX W pB143 stB871.act stB871.st .normal stB970 := tx_seq (by kernel_rfl) (tB969 hK) (tB972 hK)
theorem tB974 {W : World} (hK : KB W) : TX W pB142 stB869.act stB869.st .normal stB970 := triX_hds (k := 2) (L1 := stB871) (hihB hK) (by kernel_rfl) runB872 (tB973 hK)
theorem tB977 {W : World} (hK : KB W) : TX W pB142 stB970.act stB970.st (.exit 0) stB975 := triX_code (hihB hK) runB976
theorem tB978 {W : World} (hK : KB W) : TX W pB141 stB869.act stB869.st (.exit 0) stB975 := tx_loop (m := 1) (by kernel_rfl) rfl (.next (tB974 hK) (.last (tB977 hK)))
theorem tB979 {W : World} (hK : KB W) : TX W pB140 stB869.act stB869.st .normal stB975 := tx_block (by kernel_rfl) (tB978 hK)
theorem tB980 {W : World} (hK : KB W) : TX W pB139 stB867.act stB867.st .normal stB975 := triX_hds (k := 1) (L1 := stB869) (hihB hK) (by kernel_rfl) runB870 (tB979 hK)
theorem tB983 {W : World} (hK : KB W) : TF W Tryz.f44 pB177 stB975.act stB975.st (vvB344) stB981.st := triFin_code (hihB hK) runB982
theorem tB984 {W : World} (hK : KB W) : TF W Tryz.f44 pB138 stB867.act stB867.st (vvB344) stB981.st := tf_seq (by kernel_rfl) (tB980 hK) (tB983 hK)
theorem tB985 {W : World} (hK : KB W) : TF W Tryz.f44 pB135 stB863.act stB863.st (vvB344) stB981.st := triFin_hds (k := 2) (L1 := stB867) (hihB hK) (by kernel_rfl) runB868 (tB984 hK)
theorem tB986 {W : World} (hK : KB W) : TF W Tryz.f44 pB42 stB697.act stB697.st (vvB344) stB981.st := tf_seq (by kernel_rfl) (tB866 hK) (tB985 hK)
theorem tB987 {W : World} (hK : KB W) : TF W Tryz.f44 cdB44 ({ n := 66, t := PT.ofList 0 (PT.nil 8) vsB696, defers := [] }) stB694.st (vvB344) stB981.st := triFin_hds (k := 1) (L1 := stB697) (hihB hK) (by kernel_rfl) runB698 (tB986 hK)
theorem tB988 {W : World} (hK : KB W) : TC W 44 vsB696 stB694.st (vvB344) stB981.st := callT_fin Tryz.func44 bdB44 (by kernel_rfl) (n := 66) (by kernel_rfl) (by kernel_rfl) (tB987 hK)
theorem tB993 {W : World} (hK : KB W) : TX W pB41 stB692.act stB692.st .normal stB991 := by
  refine tx_region (by kernel_rfl) ?_
  refine triOps_cut (i := 0) (j := 1) (L1 := stB694) (hihB hK) (by kernel_rfl) runB695 (by kernel_rfl) ?_
  refine triOps_call (i := 1) (f := 44) (fi := #[]) (ca := #[]) (v := vvB344) (L0 := stB694) (Lc := stB981) (L1 := stB989) rfl rfl (by kernel_rfl) (by kernel_rfl) (by kernel_rfl) (by kernel_rfl) (tB988 hK) runB990 ?_
  exact triOps_end (i := 2) (L1 := stB991) (hihB hK) runB992 (by kernel_rfl)
theorem tB996 {W : World} (hK : KB W) : TF W Tryz.f57 pB182 stB991.act stB991.st (vvB346) stB994.st := triFin_code (hihB hK) runB995
theorem tB997 {W : World} (hK : KB W) : TF W Tryz.f57 pB40 stB692.act stB692.st (vvB346) stB994.st := tf_seq (by kernel_rfl) (tB993 hK) (tB996 hK)
theorem tB998 {W : World} (hK : KB W) : TF W Tryz.f57 cdB57 ({ n := 42, t := PT.ofList 0 (PT.nil 8) vsB691, defers := [] }) stB689.st (vvB346) stB994.st := triFin_hds (k := 1) (L1 := stB692) (hihB hK) (by kernel_rfl) runB693 (tB997 hK)
theorem tB999 {W : World} (hK : KB W) : TC W 57 vsB691 stB689.st (vvB346) stB994.st := callT_fin Tryz.func57 bdB57 (by kernel_rfl) (n := 42) (by kernel_rfl) (by kernel_rfl) (tB998 hK)
theorem tB1004 {W : World} (hK : KB W) : TX W pB39 stB687.act stB687.st .normal stB1002 := by
  refine tx_region (by kernel_rfl) ?_
  refine triOps_cut (i := 0) (j := 1) (L1 := stB689) (hihB hK) (by kernel_rfl) runB690 (by kernel_rfl) ?_
  refine triOps_call (i := 1) (f := 57) (fi := #[]) (ca := #[]) (v := vvB346) (L0 := stB689) (Lc := stB994) (L1 := stB1000) rfl rfl (by kernel_rfl) (by kernel_rfl) (by kernel_rfl) (by kernel_rfl) (tB999 hK) runB1001 ?_
  exact triOps_end (i := 2) (L1 := stB1002) (hihB hK) runB1003 (by kernel_rfl)
theorem tB1007 {W : World} (hK : KB W) : TF W Tryz.f43 pB185 stB1002.act stB1002.st (vvB348) stB1005.st := triFin_code (hihB hK) runB1006
theorem tB1008 {W : World} (hK : KB W) : TF W Tryz.f43 pB38 stB687.act stB687.st (vvB348) stB1005.st := tf_seq (by kernel_rfl) (tB1004 hK) (tB1007 hK)
theorem tB1009 {W : World} (hK : KB W) : TF W Tryz.f43 cdB43 ({ n := 45, t := PT.ofList 0 (PT.nil 8) vsB686, defers := [] }) stB684.st (vvB348) stB1005.st := triFin_hds (k := 1) (L1 := stB687) (hihB hK) (by kernel_rfl) runB688 (tB1008 hK)
theorem tB1010 {W : World} (hK : KB W) : TC W 43 vsB686 stB684.st (vvB348) stB1005.st := callT_fin Tryz.func43 bdB43 (by kernel_rfl) (n := 45) (by kernel_rfl) (by kernel_rfl) (tB1009 hK)
theorem tB1015 {W : World} (hK : KB W) : TX W pB37 stB682.act stB682.st .normal stB1013 := by
  refine tx_region (by kernel_rfl) ?_
  refine triOps_cut (i := 0) (j := 1) (L1 := stB684) (hihB hK) (by kernel_rfl) runB685 (by kernel_rfl) ?_
  refine triOps_call (i := 1) (f := 43) (fi := #[]) (ca := #[]) (v := vvB348) (L0 := stB684) (Lc := stB1005) (L1 := stB1011) rfl rfl (by kernel_rfl) (by kernel_rfl) (by kernel_rfl) (by kernel_rfl) (tB1010 hK) runB1012 ?_
  exact triOps_end (i := 2) (L1 := stB1013) (hihB hK) runB1014 (by kernel_rfl)
theorem tB1073 {W : World} (hK : KB W) : TF W Tryz.f110 pB106 stB1069.act stB1069.st (vvB369) stB1071.st := triFin_code (hihB hK) runB1072
theorem tB1074 {W : World} (hK : KB W) : TF W Tryz.f110 cdB110 ({ n := 62, t := PT.ofList 0 (PT.nil 8) vsB1068, defers := [] }) stB1066.st (vvB369) stB1071.st := triFin_hds (k := 3) (L1 := stB1069) (hihB hK) (by kernel_rfl) runB1070 (tB1073 hK)
theorem tB1075 {W : World} (hK : KB W) : TC W 110 vsB1068 stB1066.st (vvB369) stB1071.st := callT_fin Tryz.func110 bdB110 (by kernel_rfl) (n := 62) (by kernel_rfl) (by kernel_rfl) (tB1074 hK)
theorem tB1080 {W : World} (hK : KB W) : TX W pB95 stB1064.act stB1064.st .normal stB1078 := by
  refine tx_region (by kernel_rfl) ?_
  refine triOps_cut (i := 0) (j := 3) (L1 := stB1066) (hihB hK) (by kernel_rfl) runB1067 (by kernel_rfl) ?_
  refine triOps_call (i := 3) (f := 110) (fi := #[]) (ca := #[]) (v := vvB369) (L0 := stB1066) (Lc := stB1071) (L1 := stB1076) rfl rfl (by kernel_rfl) (by kernel_rfl) (by kernel_rfl) (by kernel_rfl) (tB1075 hK) runB1077 ?_
  exact triOps_end (i := 4) (L1 := stB1078) (hihB hK) runB1079 (by kernel_rfl)
theorem tB1083 {W : World} (hK : KB W) : TX W pB113 stB1078.act stB1078.st .normal stB1081 := triX_code (hihB hK) runB1082
theorem tB1084 {W : World} (hK : KB W) : TX W pB94 stB1064.act stB1064.st .normal stB1081 := tx_seq (by kernel_rfl) (tB1080 hK) (tB1083 hK)
theorem tB1085 {W : World} (hK : KB W) : TX W pB93 stB1062.act stB1062.st .normal stB1081 := triX_hds (k := 1) (L1 := stB1064) (hihB hK) (by kernel_rfl) runB1065 (tB1084 hK)
theorem tB1086 {W : World} (hK : KB W) : TX W pB92 stB1062.act stB1062.st .normal stB1081 := tx_through (by kernel_rfl) (by kernel_rfl) (tB1085 hK)
theorem tB1089 {W : World} (hK : KB W) : TX W pB114 stB1081.act stB1081.st .normal stB1087 := triX_code (hihB hK) runB1088
theorem tB1090 {W : World} (hK : KB W) : TX W pB91 stB1062.act stB1062.st .normal stB1087 := tx_seq (by kernel_rfl) (tB1086 hK) (tB1089 hK)
theorem tB1091 {W : World} (hK : KB W) : TX W pB90 stB1060.act stB1060.st .normal stB1087 := triX_hds (k := 2) (L1 := stB1062) (hihB hK) (by kernel_rfl) runB1063 (tB1090 hK)
theorem tB1094 {W : World} (hK : KB W) : TX W pB90 stB1087.act stB1087.st (.exit 0) stB1092 := triX_code (hihB hK) runB1093
theorem tB1095 {W : World} (hK : KB W) : TX W pB89 stB1060.act stB1060.st (.exit 0) stB1092 := tx_loop (m := 1) (by kernel_rfl) rfl (.next (tB1091 hK) (.last (tB1094 hK)))
theorem tB1096 {W : World} (hK : KB W) : TX W pB88 stB1060.act stB1060.st .normal stB1092 := tx_block (by kernel_rfl) (tB1095 hK)
theorem tB1097 {W : World} (hK : KB W) : TX W pB87 stB1058.act stB1058.st .normal stB1092 := triX_hds (k := 1) (L1 := stB1060) (hihB hK) (by kernel_rfl) runB1061 (tB1096 hK)
theorem tB1100 {W : World} (hK : KB W) : TF W Tryz.f88 pB115 stB1092.act stB1092.st (vvB375) stB1098.st := triFin_code (hihB hK) runB1099
theorem tB1101 {W : World} (hK : KB W) : TF W Tryz.f88 pB86 stB1058.act stB1058.st (vvB375) stB1098.st := tf_seq (by kernel_rfl) (tB1097 hK) (tB1100 hK)
theorem tB1102 {W : World} (hK : KB W) : TF W Tryz.f88 cdB88 ({ n := 89, t := PT.ofList 0 (PT.nil 8) vsB1057, defers := [] }) stB1055.st (vvB375) stB1098.st := triFin_hds (k := 7) (L1 := stB1058) (hihB hK) (by kernel_rfl) runB1059 (tB1101 hK)
theorem tB1103 {W : World} (hK : KB W) : TC W 88 vsB1057 stB1055.st (vvB375) stB1098.st := callT_fin Tryz.func88 bdB88 (by kernel_rfl) (n := 89) (by kernel_rfl) (by kernel_rfl) (tB1102 hK)
theorem tB1108 {W : World} (hK : KB W) : TX W pB77 stB1053.act stB1053.st .normal stB1106 := by
  refine tx_region (by kernel_rfl) ?_
  refine triOps_cut (i := 0) (j := 3) (L1 := stB1055) (hihB hK) (by kernel_rfl) runB1056 (by kernel_rfl) ?_
  refine triOps_call (i := 3) (f := 88) (fi := #[]) (ca := #[]) (v := vvB375) (L0 := stB1055) (Lc := stB1098) (L1 := stB1104) rfl rfl (by kernel_rfl) (by kernel_rfl) (by kernel_rfl) (by kernel_rfl) (tB1103 hK) runB1105 ?_
  exact triOps_end (i := 4) (L1 := stB1106) (hihB hK) runB1107 (by kernel_rfl)
theorem tB1111 {W : World} (hK : KB W) : TX W pB122 stB1106.act stB1106.st .normal stB1109 := triX_code (hihB hK) runB1110
theorem tB1112 {W : World} (hK : KB W) : TX W pB76 stB1053.act stB1053.st .normal stB1109 := tx_seq (by kernel_rfl) (tB1108 hK) (tB1111 hK)
theorem tB1113 {W : World} (hK : KB W) : TX W pB75 stB1051.act stB1051.st .normal stB1109 := triX_hds (k := 1) (L1 := stB1053) (hihB hK) (by kernel_rfl) runB1054 (tB1112 hK)
theorem tB1114 {W : World} (hK : KB W) : TX W pB74 stB1051.act stB1051.st .normal stB1109 := tx_through (by kernel_rfl) (by kernel_rfl) (tB1113 hK)
theorem tB1117 {W : World} (hK : KB W) : TX W pB124 stB1109.act stB1109.st .normal stB1115 := triX_code (hihB hK) runB1116
theorem tB1118 {W : World} (hK : KB W) : TX W pB73 stB1051.act stB1051.st .normal stB1115 := tx_seq (by kernel_rfl) (tB1114 hK) (tB1117 hK)
theorem tB1119 {W : World} (hK : KB W) : TX W pB72 stB1049.act stB1049.st .normal stB1115 := triX_hds (k := 2) (L1 := stB1051) (hihB hK) (by kernel_rfl) runB1052 (tB1118 hK)
theorem tB1122 {W : World} (hK : KB W) : TX W pB72 stB1115.act stB1115.st (.exit 0) stB1120 := triX_code (hihB hK) runB1121
theorem tB1123 {W : World} (hK : KB W) : TX W pB71 stB1049.act stB1049.st (.exit 0) stB1120 := tx_loop (m := 1) (by kernel_rfl) rfl (.next (tB1119 hK) (.last (tB1122 hK)))
theorem tB1124 {W : World} (hK : KB W) : TX W pB70 stB1049.act stB1049.st .normal stB1120 := tx_block (by kernel_rfl) (tB1123 hK)
theorem tB1125 {W : World} (hK : KB W) : TX W pB69 stB1047.act stB1047.st .normal stB1120 := triX_hds (k := 1) (L1 := stB1049) (hihB hK) (by kernel_rfl) runB1050 (tB1124 hK)
theorem tB1128 {W : World} (hK : KB W) : TF W Tryz.f62 pB125 stB1120.act stB1120.st (vvB377) stB1126.st := triFin_code (hihB hK) runB1127
theorem tB1129 {W : World} (hK : KB W) : TF W Tryz.f62 pB68 stB1047.act stB1047.st (vvB377) stB1126.st := tf_seq (by kernel_rfl) (tB1125 hK) (tB1128 hK)
theorem tB1130 {W : World} (hK : KB W) : TF W Tryz.f62 cdB62 ({ n := 46, t := PT.ofList 0 (PT.nil 8) vsB1046, defers := [] }) stB1044.st (vvB377) stB1126.st := triFin_hds (k := 4) (L1 := stB1047) (hihB hK) (by kernel_rfl) runB1048 (tB1129 hK)
theorem tB1131 {W : World} (hK : KB W) : TC W 62 vsB1046 stB1044.st (vvB377) stB1126.st := callT_fin Tryz.func62 bdB62 (by kernel_rfl) (n := 46) (by kernel_rfl) (by kernel_rfl) (tB1130 hK)
theorem tB1136 {W : World} (hK : KB W) : TX W pB67 stB1042.act stB1042.st .normal stB1134 := by
  refine tx_region (by kernel_rfl) ?_
  refine triOps_cut (i := 0) (j := 2) (L1 := stB1044) (hihB hK) (by kernel_rfl) runB1045 (by kernel_rfl) ?_
  refine triOps_call (i := 2) (f := 62) (fi := #[]) (ca := #[]) (v := vvB377) (L0 := stB1044) (Lc := stB1126) (L1 := stB1132) rfl rfl (by kernel_rfl) (by kernel_rfl) (by kernel_rfl) (by kernel_rfl) (tB1131 hK) runB1133 ?_
  exact triOps_end (i := 3) (L1 := stB1134) (hihB hK) runB1135 (by kernel_rfl)
theorem tB1139 {W : World} (hK : KB W) : TF W Tryz.f100 pB127 stB1134.act stB1134.st (.tuple #[.int .i64 2, .int .i64 0]) stB1137.st := triFin_code (hihB hK) runB1138
theorem tB1140 {W : World} (hK : KB W) : TF W Tryz.f100 pB66 stB1042.act stB1042.st (.tuple #[.int .i64 2, .int .i64 0]) stB1137.st := tf_seq (by kernel_rfl) (tB1136 hK) (tB1139 hK)
theorem tB1141 {W : World} (hK : KB W) : TF W Tryz.f100 cdB100 ({ n := 17, t := PT.ofList 0 (PT.nil 8) vsB1041, defers := [] }) stB1039.st (.tuple #[.int .i64 2, .int .i64 0]) stB1137.st := triFin_hds (k := 1) (L1 := stB1042) (hihB hK) (by kernel_rfl) runB1043 (tB1140 hK)
theorem tB1142 {W : World} (hK : KB W) : TC W 100 vsB1041 stB1039.st (.tuple #[.int .i64 2, .int .i64 0]) stB1137.st := callT_fin Tryz.func100 bdB100 (by kernel_rfl) (n := 17) (by kernel_rfl) (by kernel_rfl) (tB1141 hK)
theorem tB1147 {W : World} (hK : KB W) : TX W pB63 stB1037.act stB1037.st .normal stB1145 := by
  refine tx_region (by kernel_rfl) ?_
  refine triOps_cut (i := 0) (j := 3) (L1 := stB1039) (hihB hK) (by kernel_rfl) runB1040 (by kernel_rfl) ?_
  refine triOps_call (i := 3) (f := 100) (fi := #[]) (ca := #[]) (v := .tuple #[.int .i64 2, .int .i64 0]) (L0 := stB1039) (Lc := stB1137) (L1 := stB1143) rfl rfl (by kernel_rfl) (by kernel_rfl) (by kernel_rfl) (by kernel_rfl) (tB1142 hK) runB1144 ?_
  exact triOps_end (i := 4) (L1 := stB1145) (hihB hK) runB1146 (by kernel_rfl)
theorem tB1150 {W : World} (hK : KB W) : TX W pB128 stB1145.act stB1145.st .normal stB1148 := triX_code (hihB hK) runB1149
theorem tB1151 {W : World} (hK : KB W) : TX W pB62 stB1037.act stB1037.st .normal stB1148 := tx_seq (by kernel_rfl) (tB1147 hK) (tB1150 hK)
theorem tB1152 {W : World} (hK : KB W) : TX W pB56 stB1035.act stB1035.st .normal stB1148 := triX_hds (k := 2) (L1 := stB1037) (hihB hK) (by kernel_rfl) runB1038 (tB1151 hK)
theorem tB1153 {W : World} (hK : KB W) : TX W pB55 stB1035.act stB1035.st .normal stB1148 := tx_through (by kernel_rfl) (by kernel_rfl) (tB1152 hK)
theorem tB1156 {W : World} (hK : KB W) : TX W pB130 stB1148.act stB1148.st .normal stB1154 := triX_code (hihB hK) runB1155
theorem tB1157 {W : World} (hK : KB W) : TX W pB54 stB1035.act stB1035.st .normal stB1154 := tx_seq (by kernel_rfl) (tB1153 hK) (tB1156 hK)
theorem tB1158 {W : World} (hK : KB W) : TX W pB53 stB1033.act stB1033.st .normal stB1154 := triX_hds (k := 2) (L1 := stB1035) (hihB hK) (by kernel_rfl) runB1036 (tB1157 hK)
theorem tB1161 {W : World} (hK : KB W) : TX W pB53 stB1154.act stB1154.st (.exit 0) stB1159 := triX_code (hihB hK) runB1160
theorem tB1162 {W : World} (hK : KB W) : TX W pB52 stB1033.act stB1033.st (.exit 0) stB1159 := tx_loop (m := 1) (by kernel_rfl) rfl (.next (tB1158 hK) (.last (tB1161 hK)))
theorem tB1163 {W : World} (hK : KB W) : TX W pB51 stB1033.act stB1033.st .normal stB1159 := tx_block (by kernel_rfl) (tB1162 hK)
theorem tB1164 {W : World} (hK : KB W) : TX W pB50 stB1031.act stB1031.st .normal stB1159 := triX_hds (k := 1) (L1 := stB1033) (hihB hK) (by kernel_rfl) runB1034 (tB1163 hK)
theorem tB1167 {W : World} (hK : KB W) : TF W Tryz.f82 pB131 stB1159.act stB1159.st (vvB378) stB1165.st := triFin_code (hihB hK) runB1166
theorem tB1168 {W : World} (hK : KB W) : TF W Tryz.f82 pB49 stB1031.act stB1031.st (vvB378) stB1165.st := tf_seq (by kernel_rfl) (tB1164 hK) (tB1167 hK)
theorem tB1169 {W : World} (hK : KB W) : TF W Tryz.f82 cdB82 ({ n := 52, t := PT.ofList 0 (PT.nil 8) vsB1030, defers := [] }) stB1028.st (vvB378) stB1165.st := triFin_hds (k := 4) (L1 := stB1031) (hihB hK) (by kernel_rfl) runB1032 (tB1168 hK)
theorem tB1170 {W : World} (hK : KB W) : TC W 82 vsB1030 stB1028.st (vvB378) stB1165.st := callT_fin Tryz.func82 bdB82 (by kernel_rfl) (n := 52) (by kernel_rfl) (by kernel_rfl) (tB1169 hK)
theorem tB1175 {W : World} (hK : KB W) : TX W pB46 stB1026.act stB1026.st .normal stB1173 := by
  refine tx_region (by kernel_rfl) ?_
  refine triOps_cut (i := 0) (j := 1) (L1 := stB1028) (hihB hK) (by kernel_rfl) runB1029 (by kernel_rfl) ?_
  refine triOps_call (i := 1) (f := 82) (fi := #[]) (ca := #[]) (v := vvB378) (L0 := stB1028) (Lc := stB1165) (L1 := stB1171) rfl rfl (by kernel_rfl) (by kernel_rfl) (by kernel_rfl) (by kernel_rfl) (tB1170 hK) runB1172 ?_
  exact triOps_end (i := 2) (L1 := stB1173) (hihB hK) runB1174 (by kernel_rfl)
theorem tB1178 {W : World} (hK : KB W) : TF W Tryz.f59 pB133 stB1173.act stB1173.st (.tuple #[.int .i64 2, .int .i64 0]) stB1176.st := triFin_code (hihB hK) runB1177
theorem tB1179 {W : World} (hK : KB W) : TF W Tryz.f59 pB45 stB1026.act stB1026.st (.tuple #[.int .i64 2, .int .i64 0]) stB1176.st := tf_seq (by kernel_rfl) (tB1175 hK) (tB1178 hK)
theorem tB1180 {W : World} (hK : KB W) : TF W Tryz.f59 cdB59 ({ n := 30, t := PT.ofList 0 (PT.nil 8) vsB1025, defers := [] }) stB1023.st (.tuple #[.int .i64 2, .int .i64 0]) stB1176.st := triFin_hds (k := 1) (L1 := stB1026) (hihB hK) (by kernel_rfl) runB1027 (tB1179 hK)
theorem tB1181 {W : World} (hK : KB W) : TC W 59 vsB1025 stB1023.st (.tuple #[.int .i64 2, .int .i64 0]) stB1176.st := callT_fin Tryz.func59 bdB59 (by kernel_rfl) (n := 30) (by kernel_rfl) (by kernel_rfl) (tB1180 hK)
theorem tB1186 {W : World} (hK : KB W) : TX W pB44 stB1021.act stB1021.st .normal stB1184 := by
  refine tx_region (by kernel_rfl) ?_
  refine triOps_cut (i := 0) (j := 1) (L1 := stB1023) (hihB hK) (by kernel_rfl) runB1024 (by kernel_rfl) ?_
  refine triOps_call (i := 1) (f := 59) (fi := #[]) (ca := #[]) (v := .tuple #[.int .i64 2, .int .i64 0]) (L0 := stB1023) (Lc := stB1176) (L1 := stB1182) rfl rfl (by kernel_rfl) (by kernel_rfl) (by kernel_rfl) (by kernel_rfl) (tB1181 hK) runB1183 ?_
  exact triOps_end (i := 2) (L1 := stB1184) (hihB hK) runB1185 (by kernel_rfl)
theorem tB1189 {W : World} (hK : KB W) : TX W pB134 stB1184.act stB1184.st .normal stB1187 := triX_code (hihB hK) runB1188
theorem tB1190 {W : World} (hK : KB W) : TX W pB43 stB1021.act stB1021.st .normal stB1187 := tx_seq (by kernel_rfl) (tB1186 hK) (tB1189 hK)
theorem tB1228 {W : World} (hK : KB W) : TF W Tryz.f110 pB106 stB1224.act stB1224.st (vvB399) stB1226.st := triFin_code (hihB hK) runB1227
theorem tB1229 {W : World} (hK : KB W) : TF W Tryz.f110 cdB110 ({ n := 62, t := PT.ofList 0 (PT.nil 8) vsB1223, defers := [] }) stB1221.st (vvB399) stB1226.st := triFin_hds (k := 3) (L1 := stB1224) (hihB hK) (by kernel_rfl) runB1225 (tB1228 hK)
theorem tB1230 {W : World} (hK : KB W) : TC W 110 vsB1223 stB1221.st (vvB399) stB1226.st := callT_fin Tryz.func110 bdB110 (by kernel_rfl) (n := 62) (by kernel_rfl) (by kernel_rfl) (tB1229 hK)
theorem tB1235 {W : World} (hK : KB W) : TX W pB95 stB1219.act stB1219.st .normal stB1233 := by
  refine tx_region (by kernel_rfl) ?_
  refine triOps_cut (i := 0) (j := 3) (L1 := stB1221) (hihB hK) (by kernel_rfl) runB1222 (by kernel_rfl) ?_
  refine triOps_call (i := 3) (f := 110) (fi := #[]) (ca := #[]) (v := vvB399) (L0 := stB1221) (Lc := stB1226) (L1 := stB1231) rfl rfl (by kernel_rfl) (by kernel_rfl) (by kernel_rfl) (by kernel_rfl) (tB1230 hK) runB1232 ?_
  exact triOps_end (i := 4) (L1 := stB1233) (hihB hK) runB1234 (by kernel_rfl)
theorem tB1238 {W : World} (hK : KB W) : TX W pB113 stB1233.act stB1233.st .normal stB1236 := triX_code (hihB hK) runB1237
theorem tB1239 {W : World} (hK : KB W) : TX W pB94 stB1219.act stB1219.st .normal stB1236 := tx_seq (by kernel_rfl) (tB1235 hK) (tB1238 hK)
theorem tB1240 {W : World} (hK : KB W) : TX W pB93 stB1217.act stB1217.st .normal stB1236 := triX_hds (k := 1) (L1 := stB1219) (hihB hK) (by kernel_rfl) runB1220 (tB1239 hK)
theorem tB1241 {W : World} (hK : KB W) : TX W pB92 stB1217.act stB1217.st .normal stB1236 := tx_through (by kernel_rfl) (by kernel_rfl) (tB1240 hK)
theorem tB1244 {W : World} (hK : KB W) : TX W pB114 stB1236.act stB1236.st .normal stB1242 := triX_code (hihB hK) runB1243
theorem tB1245 {W : World} (hK : KB W) : TX W pB91 stB1217.act stB1217.st .normal stB1242 := tx_seq (by kernel_rfl) (tB1241 hK) (tB1244 hK)
theorem tB1246 {W : World} (hK : KB W) : TX W pB90 stB1215.act stB1215.st .normal stB1242 := triX_hds (k := 2) (L1 := stB1217) (hihB hK) (by kernel_rfl) runB1218 (tB1245 hK)
theorem tB1249 {W : World} (hK : KB W) : TX W pB90 stB1242.act stB1242.st (.exit 0) stB1247 := triX_code (hihB hK) runB1248
theorem tB1250 {W : World} (hK : KB W) : TX W pB89 stB1215.act stB1215.st (.exit 0) stB1247 := tx_loop (m := 1) (by kernel_rfl) rfl (.next (tB1246 hK) (.last (tB1249 hK)))
theorem tB1251 {W : World} (hK : KB W) : TX W pB88 stB1215.act stB1215.st .normal stB1247 := tx_block (by kernel_rfl) (tB1250 hK)
theorem tB1252 {W : World} (hK : KB W) : TX W pB87 stB1213.act stB1213.st .normal stB1247 := triX_hds (k := 1) (L1 := stB1215) (hihB hK) (by kernel_rfl) runB1216 (tB1251 hK)
theorem tB1255 {W : World} (hK : KB W) : TF W Tryz.f88 pB115 stB1247.act stB1247.st (vvB405) stB1253.st := triFin_code (hihB hK) runB1254
theorem tB1256 {W : World} (hK : KB W) : TF W Tryz.f88 pB86 stB1213.act stB1213.st (vvB405) stB1253.st := tf_seq (by kernel_rfl) (tB1252 hK) (tB1255 hK)
theorem tB1257 {W : World} (hK : KB W) : TF W Tryz.f88 cdB88 ({ n := 89, t := PT.ofList 0 (PT.nil 8) vsB1212, defers := [] }) stB1210.st (vvB405) stB1253.st := triFin_hds (k := 7) (L1 := stB1213) (hihB hK) (by kernel_rfl) runB1214 (tB1256 hK)
theorem tB1258 {W : World} (hK : KB W) : TC W 88 vsB1212 stB1210.st (vvB405) stB1253.st := callT_fin Tryz.func88 bdB88 (by kernel_rfl) (n := 89) (by kernel_rfl) (by kernel_rfl) (tB1257 hK)
theorem tB1263 {W : World} (hK : KB W) : TX W pB77 stB1208.act stB1208.st .normal stB1261 := by
  refine tx_region (by kernel_rfl) ?_
  refine triOps_cut (i := 0) (j := 3) (L1 := stB1210) (hihB hK) (by kernel_rfl) runB1211 (by kernel_rfl) ?_
  refine triOps_call (i := 3) (f := 88) (fi := #[]) (ca := #[]) (v := vvB405) (L0 := stB1210) (Lc := stB1253) (L1 := stB1259) rfl rfl (by kernel_rfl) (by kernel_rfl) (by kernel_rfl) (by kernel_rfl) (tB1258 hK) runB1260 ?_
  exact triOps_end (i := 4) (L1 := stB1261) (hihB hK) runB1262 (by kernel_rfl)
theorem tB1266 {W : World} (hK : KB W) : TX W pB122 stB1261.act stB1261.st .normal stB1264 := triX_code (hihB hK) runB1265
theorem tB1267 {W : World} (hK : KB W) : TX W pB76 stB1208.act stB1208.st .normal stB1264 := tx_seq (by kernel_rfl) (tB1263 hK) (tB1266 hK)
theorem tB1268 {W : World} (hK : KB W) : TX W pB75 stB1206.act stB1206.st .normal stB1264 := triX_hds (k := 1) (L1 := stB1208) (hihB hK) (by kernel_rfl) runB1209 (tB1267 hK)
theorem tB1269 {W : World} (hK : KB W) : TX W pB74 stB1206.act stB1206.st .normal stB1264 := tx_through (by kernel_rfl) (by kernel_rfl) (tB1268 hK)
theorem tB1272 {W : World} (hK : KB W) : TX W pB124 stB1264.act stB1264.st .normal stB1270 := triX_code (hihB hK) runB1271
theorem tB1273 {W : World} (hK : KB W) : TX W pB73 stB1206.act stB1206.st .normal stB1270 := tx_seq (by kernel_rfl) (tB1269 hK) (tB1272 hK)
theorem tB1274 {W : World} (hK : KB W) : TX W pB72 stB1204.act stB1204.st .normal stB1270 := triX_hds (k := 2) (L1 := stB1206) (hihB hK) (by kernel_rfl) runB1207 (tB1273 hK)
theorem tB1277 {W : World} (hK : KB W) : TX W pB72 stB1270.act stB1270.st (.exit 0) stB1275 := triX_code (hihB hK) runB1276
theorem tB1278 {W : World} (hK : KB W) : TX W pB71 stB1204.act stB1204.st (.exit 0) stB1275 := tx_loop (m := 1) (by kernel_rfl) rfl (.next (tB1274 hK) (.last (tB1277 hK)))
theorem tB1279 {W : World} (hK : KB W) : TX W pB70 stB1204.act stB1204.st .normal stB1275 := tx_block (by kernel_rfl) (tB1278 hK)
theorem tB1280 {W : World} (hK : KB W) : TX W pB69 stB1202.act stB1202.st .normal stB1275 := triX_hds (k := 1) (L1 := stB1204) (hihB hK) (by kernel_rfl) runB1205 (tB1279 hK)
theorem tB1283 {W : World} (hK : KB W) : TF W Tryz.f62 pB125 stB1275.act stB1275.st (vvB407) stB1281.st := triFin_code (hihB hK) runB1282
theorem tB1284 {W : World} (hK : KB W) : TF W Tryz.f62 pB68 stB1202.act stB1202.st (vvB407) stB1281.st := tf_seq (by kernel_rfl) (tB1280 hK) (tB1283 hK)
theorem tB1285 {W : World} (hK : KB W) : TF W Tryz.f62 cdB62 ({ n := 46, t := PT.ofList 0 (PT.nil 8) vsB1201, defers := [] }) stB1199.st (vvB407) stB1281.st := triFin_hds (k := 4) (L1 := stB1202) (hihB hK) (by kernel_rfl) runB1203 (tB1284 hK)
theorem tB1286 {W : World} (hK : KB W) : TC W 62 vsB1201 stB1199.st (vvB407) stB1281.st := callT_fin Tryz.func62 bdB62 (by kernel_rfl) (n := 46) (by kernel_rfl) (by kernel_rfl) (tB1285 hK)
theorem tB1291 {W : World} (hK : KB W) : TX W pB149 stB1197.act stB1197.st .normal stB1289 := by
  refine tx_region (by kernel_rfl) ?_
  refine triOps_cut (i := 0) (j := 5) (L1 := stB1199) (hihB hK) (by kernel_rfl) runB1200 (by kernel_rfl) ?_
  refine triOps_call (i := 5) (f := 62) (fi := #[]) (ca := #[]) (v := vvB407) (L0 := stB1199) (Lc := stB1281) (L1 := stB1287) rfl rfl (by kernel_rfl) (by kernel_rfl) (by kernel_rfl) (by kernel_rfl) (tB1286 hK) runB1288 ?_
  exact triOps_end (i := 6) (L1 := stB1289) (hihB hK) runB1290 (by kernel_rfl)
theorem tB1292 {W : World} (hK : KB W) : TX W pB145 stB1195.act stB1195.st .normal stB1289 := triX_hds (k := 2) (L1 := stB1197) (hihB hK) (by kernel_rfl) runB1198 (tB1291 hK)
theorem tB1293 {W : World} (hK : KB W) : TX W pB144 stB1195.act stB1195.st .normal stB1289 := tx_through (by kernel_rfl) (by kernel_rfl) (tB1292 hK)
theorem tB1296 {W : World} (hK : KB W) : TX W pB176 stB1289.act stB1289.st .normal stB1294 := triX_code (hihB hK) runB1295
theorem tB1297 {W : World} (hK : KB W) : TX W pB143 stB1195.act stB1195.st .normal stB1294 := tx_seq (by kernel_rfl) (tB1293 hK) (tB1296 hK)
theorem tB1298 {W : World} (hK : KB W) : TX W pB142 stB1193.act stB1193.st .normal stB1294 := triX_hds (k := 2) (L1 := stB1195) (hihB hK) (by kernel_rfl) runB1196 (tB1297 hK)
theorem tB1301 {W : World} (hK : KB W) : TX W pB142 stB1294.act stB1294.st (.exit 0) stB1299 := triX_code (hihB hK) runB1300
theorem tB1302 {W : World} (hK : KB W) : TX W pB141 stB1193.act stB1193.st (.exit 0) stB1299 := tx_loop (m := 1) (by kernel_rfl) rfl (.next (tB1298 hK) (.last (tB1301 hK)))
theorem tB1303 {W : World} (hK : KB W) : TX W pB140 stB1193.act stB1193.st .normal stB1299 := tx_block (by kernel_rfl) (tB1302 hK)
theorem tB1304 {W : World} (hK : KB W) : TX W pB139 stB1191.act stB1191.st .normal stB1299 := triX_hds (k := 1) (L1 := stB1193) (hihB hK) (by kernel_rfl) runB1194 (tB1303 hK)
theorem tB1307 {W : World} (hK : KB W) : TF W Tryz.f44 pB177 stB1299.act stB1299.st (vvB410) stB1305.st := triFin_code (hihB hK) runB1306
theorem tB1308 {W : World} (hK : KB W) : TF W Tryz.f44 pB138 stB1191.act stB1191.st (vvB410) stB1305.st := tf_seq (by kernel_rfl) (tB1304 hK) (tB1307 hK)
theorem tB1309 {W : World} (hK : KB W) : TF W Tryz.f44 pB135 stB1187.act stB1187.st (vvB410) stB1305.st := triFin_hds (k := 2) (L1 := stB1191) (hihB hK) (by kernel_rfl) runB1192 (tB1308 hK)
theorem tB1310 {W : World} (hK : KB W) : TF W Tryz.f44 pB42 stB1021.act stB1021.st (vvB410) stB1305.st := tf_seq (by kernel_rfl) (tB1190 hK) (tB1309 hK)
theorem tB1311 {W : World} (hK : KB W) : TF W Tryz.f44 cdB44 ({ n := 66, t := PT.ofList 0 (PT.nil 8) vsB1020, defers := [] }) stB1018.st (vvB410) stB1305.st := triFin_hds (k := 1) (L1 := stB1021) (hihB hK) (by kernel_rfl) runB1022 (tB1310 hK)
theorem tB1312 {W : World} (hK : KB W) : TC W 44 vsB1020 stB1018.st (vvB410) stB1305.st := callT_fin Tryz.func44 bdB44 (by kernel_rfl) (n := 66) (by kernel_rfl) (by kernel_rfl) (tB1311 hK)
theorem tB1317 {W : World} (hK : KB W) : TX W pB190 stB1016.act stB1016.st .normal stB1315 := by
  refine tx_region (by kernel_rfl) ?_
  refine triOps_cut (i := 0) (j := 1) (L1 := stB1018) (hihB hK) (by kernel_rfl) runB1019 (by kernel_rfl) ?_
  refine triOps_call (i := 1) (f := 44) (fi := #[]) (ca := #[]) (v := vvB410) (L0 := stB1018) (Lc := stB1305) (L1 := stB1313) rfl rfl (by kernel_rfl) (by kernel_rfl) (by kernel_rfl) (by kernel_rfl) (tB1312 hK) runB1314 ?_
  exact triOps_end (i := 2) (L1 := stB1315) (hihB hK) runB1316 (by kernel_rfl)
theorem tB1326 {W : World} (hK : KB W) : TX W pB256 stB1322.act stB1322.st (.exit 2) stB1324 := triX_code (hihB hK) runB1325
theorem tB1327 {W : World} (hK : KB W) : TX W pB255 stB1318.act stB1318.st (.exit 2) stB1324 := tx_loop (m := 2) (by kernel_rfl) rfl (rounds_run (hihB hK) runB1321 (rounds_run (hihB hK) runB1323 (.last (tB1326 hK))))
theorem tB1328 {W : World} (hK : KB W) : TX W pB254 stB1318.act stB1318.st .normal stB1324 := tx_block (by kernel_rfl) (tB1327 hK)
theorem tB1329 {W : World} (hK : KB W) : TX W pB253 stB1315.act stB1315.st .normal stB1324 := triX_hds (k := 2) (L1 := stB1318) (hihB hK) (by kernel_rfl) runB1319 (tB1328 hK)
theorem tB1330 {W : World} (hK : KB W) : TX W pB189 stB1016.act stB1016.st .normal stB1324 := tx_seq (by kernel_rfl) (tB1317 hK) (tB1329 hK)
theorem tB1331 {W : World} (hK : KB W) : TX W pB188 stB1013.act stB1013.st .normal stB1324 := triX_hds (k := 2) (L1 := stB1016) (hihB hK) (by kernel_rfl) runB1017 (tB1330 hK)
theorem tB1332 {W : World} (hK : KB W) : TX W pB36 stB682.act stB682.st .normal stB1324 := tx_seq (by kernel_rfl) (tB1015 hK) (tB1331 hK)
theorem tB1333 {W : World} (hK : KB W) : TX W pB33 stB680.act stB680.st .normal stB1324 := triX_hds (k := 1) (L1 := stB682) (hihB hK) (by kernel_rfl) runB683 (tB1332 hK)
theorem tB1334 {W : World} (hK : KB W) : TX W pB32 stB680.act stB680.st .normal stB1324 := tx_through (by kernel_rfl) (by kernel_rfl) (tB1333 hK)
theorem tB1337 {W : World} (hK : KB W) : TX W pB271 stB1324.act stB1324.st .normal stB1335 := triX_code (hihB hK) runB1336
theorem tB1338 {W : World} (hK : KB W) : TX W pB31 stB680.act stB680.st .normal stB1335 := tx_seq (by kernel_rfl) (tB1334 hK) (tB1337 hK)
theorem tB1339 {W : World} (hK : KB W) : TX W pB30 stB675.act stB675.st .normal stB1335 := triX_hds (k := 2) (L1 := stB680) (hihB hK) (by kernel_rfl) runB681 (tB1338 hK)
theorem tB1342 {W : World} (hK : KB W) : TX W pB30 stB1335.act stB1335.st (.exit 0) stB1340 := triX_code (hihB hK) runB1341
theorem tB1343 {W : World} (hK : KB W) : TX W pB29 stB18.act stB18.st (.exit 0) stB1340 := tx_loop (m := 2) (by kernel_rfl) rfl (.next (tB679 hK) (.next (tB1339 hK) (.last (tB1342 hK))))
theorem tB1344 {W : World} (hK : KB W) : TX W pB28 stB18.act stB18.st .normal stB1340 := tx_block (by kernel_rfl) (tB1343 hK)
theorem tB1345 {W : World} (hK : KB W) : TX W pB27 stB16.act stB16.st .normal stB1340 := triX_hds (k := 1) (L1 := stB18) (hihB hK) (by kernel_rfl) runB19 (tB1344 hK)
theorem tB1348 {W : World} (hK : KB W) : TF W Tryz.f21 pB423 stB1340.act stB1340.st (vvB424) stB1346.st := triFin_code (hihB hK) runB1347
theorem tB1349 {W : World} (hK : KB W) : TF W Tryz.f21 pB26 stB16.act stB16.st (vvB424) stB1346.st := tf_seq (by kernel_rfl) (tB1345 hK) (tB1348 hK)
theorem tB1350 {W : World} (hK : KB W) : TF W Tryz.f21 cdB21 ({ n := 79, t := PT.ofList 0 (PT.nil 8) vsB15, defers := [] }) stB13.st (vvB424) stB1346.st := triFin_hds (k := 4) (L1 := stB16) (hihB hK) (by kernel_rfl) runB17 (tB1349 hK)
theorem tB1351 {W : World} (hK : KB W) : TC W 21 vsB15 stB13.st (vvB424) stB1346.st := callT_fin Tryz.func21 bdB21 (by kernel_rfl) (n := 79) (by kernel_rfl) (by kernel_rfl) (tB1350 hK)
theorem tB1356 {W : World} (hK : KB W) : TX W pB21 stB11.act stB11.st .normal stB1354 := by
  refine tx_region (by kernel_rfl) ?_
  refine triOps_cut (i := 0) (j := 1) (L1 := stB13) (hihB hK) (by kernel_rfl) runB14 (by kernel_rfl) ?_
  refine triOps_call (i := 1) (f := 21) (fi := #[]) (ca := #[]) (v := vvB424) (L0 := stB13) (Lc := stB1346) (L1 := stB1352) rfl rfl (by kernel_rfl) (by kernel_rfl) (by kernel_rfl) (by kernel_rfl) (tB1351 hK) runB1353 ?_
  exact triOps_end (i := 2) (L1 := stB1354) (hihB hK) runB1355 (by kernel_rfl)
theorem tB1359 {W : World} (hK : KB W) : TF W Tryz.f20 pB425 stB1354.act stB1354.st (vvB427) stB1357.st := triFin_code (hihB hK) runB1358
theorem tB1360 {W : World} (hK : KB W) : TF W Tryz.f20 pB20 stB11.act stB11.st (vvB427) stB1357.st := tf_seq (by kernel_rfl) (tB1356 hK) (tB1359 hK)
theorem tB1361 {W : World} (hK : KB W) : TF W Tryz.f20 cdB20 ({ n := 41, t := PT.ofList 0 (PT.nil 8) vsB10, defers := [] }) stB8.st (vvB427) stB1357.st := triFin_hds (k := 1) (L1 := stB11) (hihB hK) (by kernel_rfl) runB12 (tB1360 hK)
theorem tB1362 {W : World} (hK : KB W) : TC W 20 vsB10 stB8.st (vvB427) stB1357.st := callT_fin Tryz.func20 bdB20 (by kernel_rfl) (n := 41) (by kernel_rfl) (by kernel_rfl) (tB1361 hK)
theorem tB1367 {W : World} (hK : KB W) : TX W pB19 stB6.act stB6.st .normal stB1365 := by
  refine tx_region (by kernel_rfl) ?_
  refine triOps_cut (i := 0) (j := 1) (L1 := stB8) (hihB hK) (by kernel_rfl) runB9 (by kernel_rfl) ?_
  refine triOps_call (i := 1) (f := 20) (fi := #[]) (ca := #[]) (v := vvB427) (L0 := stB8) (Lc := stB1357) (L1 := stB1363) rfl rfl (by kernel_rfl) (by kernel_rfl) (by kernel_rfl) (by kernel_rfl) (tB1362 hK) runB1364 ?_
  exact triOps_end (i := 2) (L1 := stB1365) (hihB hK) runB1366 (by kernel_rfl)
theorem tB1370 {W : World} (hK : KB W) : TF W Tryz.f11 pB428 stB1365.act stB1365.st (vt) stB1368.st := triFin_code (hihB hK) runB1369
theorem tB1371 {W : World} (hK : KB W) : TF W Tryz.f11 pB18 stB6.act stB6.st (vt) stB1368.st := tf_seq (by kernel_rfl) (tB1367 hK) (tB1370 hK)
theorem tB1372 {W : World} (hK : KB W) : TF W Tryz.f11 cdB11 ({ n := 38, t := PT.ofList 0 (PT.nil 8) vsB5, defers := [] }) stB3.st (vt) stB1368.st := triFin_hds (k := 1) (L1 := stB6) (hihB hK) (by kernel_rfl) runB7 (tB1371 hK)
theorem tB1373 {W : World} (hK : KB W) : TC W 11 vsB5 stB3.st (vt) stB1368.st := callT_fin Tryz.func11 bdB11 (by kernel_rfl) (n := 38) (by kernel_rfl) (by kernel_rfl) (tB1372 hK)
theorem tB1457 {W : World} (hK : KB W) : TF W Tryz.f110 pB106 stB1453.act stB1453.st (vvB460) stB1455.st := triFin_code (hihB hK) runB1456
theorem tB1458 {W : World} (hK : KB W) : TF W Tryz.f110 cdB110 ({ n := 62, t := PT.ofList 0 (PT.nil 8) vsB1452, defers := [] }) stB1450.st (vvB460) stB1455.st := triFin_hds (k := 3) (L1 := stB1453) (hihB hK) (by kernel_rfl) runB1454 (tB1457 hK)
theorem tB1459 {W : World} (hK : KB W) : TC W 110 vsB1452 stB1450.st (vvB460) stB1455.st := callT_fin Tryz.func110 bdB110 (by kernel_rfl) (n := 62) (by kernel_rfl) (by kernel_rfl) (tB1458 hK)
theorem tB1464 {W : World} (hK : KB W) : TX W pB95 stB1448.act stB1448.st .normal stB1462 := by
  refine tx_region (by kernel_rfl) ?_
  refine triOps_cut (i := 0) (j := 3) (L1 := stB1450) (hihB hK) (by kernel_rfl) runB1451 (by kernel_rfl) ?_
  refine triOps_call (i := 3) (f := 110) (fi := #[]) (ca := #[]) (v := vvB460) (L0 := stB1450) (Lc := stB1455) (L1 := stB1460) rfl rfl (by kernel_rfl) (by kernel_rfl) (by kernel_rfl) (by kernel_rfl) (tB1459 hK) runB1461 ?_
  exact triOps_end (i := 4) (L1 := stB1462) (hihB hK) runB1463 (by kernel_rfl)
theorem tB1467 {W : World} (hK : KB W) : TX W pB113 stB1462.act stB1462.st .normal stB1465 := triX_code (hihB hK) runB1466
theorem tB1468 {W : World} (hK : KB W) : TX W pB94 stB1448.act stB1448.st .normal stB1465 := tx_seq (by kernel_rfl) (tB1464 hK) (tB1467 hK)
theorem tB1469 {W : World} (hK : KB W) : TX W pB93 stB1446.act stB1446.st .normal stB1465 := triX_hds (k := 1) (L1 := stB1448) (hihB hK) (by kernel_rfl) runB1449 (tB1468 hK)
theorem tB1470 {W : World} (hK : KB W) : TX W pB92 stB1446.act stB1446.st .normal stB1465 := tx_through (by kernel_rfl) (by kernel_rfl) (tB1469 hK)
theorem tB1473 {W : World} (hK : KB W) : TX W pB114 stB1465.act stB1465.st .normal stB1471 := triX_code (hihB hK) runB1472
theorem tB1474 {W : World} (hK : KB W) : TX W pB91 stB1446.act stB1446.st .normal stB1471 := tx_seq (by kernel_rfl) (tB1470 hK) (tB1473 hK)
theorem tB1475 {W : World} (hK : KB W) : TX W pB90 stB1444.act stB1444.st .normal stB1471 := triX_hds (k := 2) (L1 := stB1446) (hihB hK) (by kernel_rfl) runB1447 (tB1474 hK)
theorem tB1478 {W : World} (hK : KB W) : TX W pB90 stB1471.act stB1471.st (.exit 0) stB1476 := triX_code (hihB hK) runB1477
theorem tB1479 {W : World} (hK : KB W) : TX W pB89 stB1444.act stB1444.st (.exit 0) stB1476 := tx_loop (m := 1) (by kernel_rfl) rfl (.next (tB1475 hK) (.last (tB1478 hK)))
theorem tB1480 {W : World} (hK : KB W) : TX W pB88 stB1444.act stB1444.st .normal stB1476 := tx_block (by kernel_rfl) (tB1479 hK)
theorem tB1481 {W : World} (hK : KB W) : TX W pB87 stB1442.act stB1442.st .normal stB1476 := triX_hds (k := 1) (L1 := stB1444) (hihB hK) (by kernel_rfl) runB1445 (tB1480 hK)
theorem tB1484 {W : World} (hK : KB W) : TF W Tryz.f88 pB115 stB1476.act stB1476.st (vvB466) stB1482.st := triFin_code (hihB hK) runB1483
theorem tB1485 {W : World} (hK : KB W) : TF W Tryz.f88 pB86 stB1442.act stB1442.st (vvB466) stB1482.st := tf_seq (by kernel_rfl) (tB1481 hK) (tB1484 hK)
theorem tB1486 {W : World} (hK : KB W) : TF W Tryz.f88 cdB88 ({ n := 89, t := PT.ofList 0 (PT.nil 8) vsB1441, defers := [] }) stB1439.st (vvB466) stB1482.st := triFin_hds (k := 7) (L1 := stB1442) (hihB hK) (by kernel_rfl) runB1443 (tB1485 hK)
theorem tB1487 {W : World} (hK : KB W) : TC W 88 vsB1441 stB1439.st (vvB466) stB1482.st := callT_fin Tryz.func88 bdB88 (by kernel_rfl) (n := 89) (by kernel_rfl) (by kernel_rfl) (tB1486 hK)
theorem tB1492 {W : World} (hK : KB W) : TX W pB77 stB1437.act stB1437.st .normal stB1490 := by
  refine tx_region (by kernel_rfl) ?_
  refine triOps_cut (i := 0) (j := 3) (L1 := stB1439) (hihB hK) (by kernel_rfl) runB1440 (by kernel_rfl) ?_
  refine triOps_call (i := 3) (f := 88) (fi := #[]) (ca := #[]) (v := vvB466) (L0 := stB1439) (Lc := stB1482) (L1 := stB1488) rfl rfl (by kernel_rfl) (by kernel_rfl) (by kernel_rfl) (by kernel_rfl) (tB1487 hK) runB1489 ?_
  exact triOps_end (i := 4) (L1 := stB1490) (hihB hK) runB1491 (by kernel_rfl)
theorem tB1495 {W : World} (hK : KB W) : TX W pB122 stB1490.act stB1490.st .normal stB1493 := triX_code (hihB hK) runB1494
theorem tB1496 {W : World} (hK : KB W) : TX W pB76 stB1437.act stB1437.st .normal stB1493 := tx_seq (by kernel_rfl) (tB1492 hK) (tB1495 hK)
theorem tB1497 {W : World} (hK : KB W) : TX W pB75 stB1435.act stB1435.st .normal stB1493 := triX_hds (k := 1) (L1 := stB1437) (hihB hK) (by kernel_rfl) runB1438 (tB1496 hK)
theorem tB1498 {W : World} (hK : KB W) : TX W pB74 stB1435.act stB1435.st .normal stB1493 := tx_through (by kernel_rfl) (by kernel_rfl) (tB1497 hK)
theorem tB1501 {W : World} (hK : KB W) : TX W pB124 stB1493.act stB1493.st .normal stB1499 := triX_code (hihB hK) runB1500
theorem tB1502 {W : World} (hK : KB W) : TX W pB73 stB1435.act stB1435.st .normal stB1499 := tx_seq (by kernel_rfl) (tB1498 hK) (tB1501 hK)
theorem tB1503 {W : World} (hK : KB W) : TX W pB72 stB1433.act stB1433.st .normal stB1499 := triX_hds (k := 2) (L1 := stB1435) (hihB hK) (by kernel_rfl) runB1436 (tB1502 hK)
theorem tB1506 {W : World} (hK : KB W) : TX W pB72 stB1499.act stB1499.st (.exit 0) stB1504 := triX_code (hihB hK) runB1505
theorem tB1507 {W : World} (hK : KB W) : TX W pB71 stB1433.act stB1433.st (.exit 0) stB1504 := tx_loop (m := 1) (by kernel_rfl) rfl (.next (tB1503 hK) (.last (tB1506 hK)))
theorem tB1508 {W : World} (hK : KB W) : TX W pB70 stB1433.act stB1433.st .normal stB1504 := tx_block (by kernel_rfl) (tB1507 hK)
theorem tB1509 {W : World} (hK : KB W) : TX W pB69 stB1431.act stB1431.st .normal stB1504 := triX_hds (k := 1) (L1 := stB1433) (hihB hK) (by kernel_rfl) runB1434 (tB1508 hK)
theorem tB1512 {W : World} (hK : KB W) : TF W Tryz.f62 pB125 stB1504.act stB1504.st (vvB468) stB1510.st := triFin_code (hihB hK) runB1511
theorem tB1513 {W : World} (hK : KB W) : TF W Tryz.f62 pB68 stB1431.act stB1431.st (vvB468) stB1510.st := tf_seq (by kernel_rfl) (tB1509 hK) (tB1512 hK)
theorem tB1514 {W : World} (hK : KB W) : TF W Tryz.f62 cdB62 ({ n := 46, t := PT.ofList 0 (PT.nil 8) vsB1430, defers := [] }) stB1428.st (vvB468) stB1510.st := triFin_hds (k := 4) (L1 := stB1431) (hihB hK) (by kernel_rfl) runB1432 (tB1513 hK)
theorem tB1515 {W : World} (hK : KB W) : TC W 62 vsB1430 stB1428.st (vvB468) stB1510.st := callT_fin Tryz.func62 bdB62 (by kernel_rfl) (n := 46) (by kernel_rfl) (by kernel_rfl) (tB1514 hK)
theorem tB1520 {W : World} (hK : KB W) : TX W pB67 stB1426.act stB1426.st .normal stB1518 := by
  refine tx_region (by kernel_rfl) ?_
  refine triOps_cut (i := 0) (j := 2) (L1 := stB1428) (hihB hK) (by kernel_rfl) runB1429 (by kernel_rfl) ?_
  refine triOps_call (i := 2) (f := 62) (fi := #[]) (ca := #[]) (v := vvB468) (L0 := stB1428) (Lc := stB1510) (L1 := stB1516) rfl rfl (by kernel_rfl) (by kernel_rfl) (by kernel_rfl) (by kernel_rfl) (tB1515 hK) runB1517 ?_
  exact triOps_end (i := 3) (L1 := stB1518) (hihB hK) runB1519 (by kernel_rfl)
theorem tB1523 {W : World} (hK : KB W) : TF W Tryz.f100 pB127 stB1518.act stB1518.st (.tuple #[.int .i64 2, .int .i64 0]) stB1521.st := triFin_code (hihB hK) runB1522
theorem tB1524 {W : World} (hK : KB W) : TF W Tryz.f100 pB66 stB1426.act stB1426.st (.tuple #[.int .i64 2, .int .i64 0]) stB1521.st := tf_seq (by kernel_rfl) (tB1520 hK) (tB1523 hK)
theorem tB1525 {W : World} (hK : KB W) : TF W Tryz.f100 cdB100 ({ n := 17, t := PT.ofList 0 (PT.nil 8) vsB1425, defers := [] }) stB1423.st (.tuple #[.int .i64 2, .int .i64 0]) stB1521.st := triFin_hds (k := 1) (L1 := stB1426) (hihB hK) (by kernel_rfl) runB1427 (tB1524 hK)
theorem tB1526 {W : World} (hK : KB W) : TC W 100 vsB1425 stB1423.st (.tuple #[.int .i64 2, .int .i64 0]) stB1521.st := callT_fin Tryz.func100 bdB100 (by kernel_rfl) (n := 17) (by kernel_rfl) (by kernel_rfl) (tB1525 hK)
theorem tB1531 {W : World} (hK : KB W) : TX W pB63 stB1421.act stB1421.st .normal stB1529 := by
  refine tx_region (by kernel_rfl) ?_
  refine triOps_cut (i := 0) (j := 3) (L1 := stB1423) (hihB hK) (by kernel_rfl) runB1424 (by kernel_rfl) ?_
  refine triOps_call (i := 3) (f := 100) (fi := #[]) (ca := #[]) (v := .tuple #[.int .i64 2, .int .i64 0]) (L0 := stB1423) (Lc := stB1521) (L1 := stB1527) rfl rfl (by kernel_rfl) (by kernel_rfl) (by kernel_rfl) (by kernel_rfl) (tB1526 hK) runB1528 ?_
  exact triOps_end (i := 4) (L1 := stB1529) (hihB hK) runB1530 (by kernel_rfl)
theorem tB1534 {W : World} (hK : KB W) : TX W pB128 stB1529.act stB1529.st .normal stB1532 := triX_code (hihB hK) runB1533
theorem tB1535 {W : World} (hK : KB W) : TX W pB62 stB1421.act stB1421.st .normal stB1532 := tx_seq (by kernel_rfl) (tB1531 hK) (tB1534 hK)
theorem tB1536 {W : World} (hK : KB W) : TX W pB56 stB1419.act stB1419.st .normal stB1532 := triX_hds (k := 2) (L1 := stB1421) (hihB hK) (by kernel_rfl) runB1422 (tB1535 hK)
theorem tB1537 {W : World} (hK : KB W) : TX W pB55 stB1419.act stB1419.st .normal stB1532 := tx_through (by kernel_rfl) (by kernel_rfl) (tB1536 hK)
theorem tB1540 {W : World} (hK : KB W) : TX W pB130 stB1532.act stB1532.st .normal stB1538 := triX_code (hihB hK) runB1539
theorem tB1541 {W : World} (hK : KB W) : TX W pB54 stB1419.act stB1419.st .normal stB1538 := tx_seq (by kernel_rfl) (tB1537 hK) (tB1540 hK)
theorem tB1542 {W : World} (hK : KB W) : TX W pB53 stB1417.act stB1417.st .normal stB1538 := triX_hds (k := 2) (L1 := stB1419) (hihB hK) (by kernel_rfl) runB1420 (tB1541 hK)
theorem tB1545 {W : World} (hK : KB W) : TX W pB53 stB1538.act stB1538.st (.exit 0) stB1543 := triX_code (hihB hK) runB1544
theorem tB1546 {W : World} (hK : KB W) : TX W pB52 stB1417.act stB1417.st (.exit 0) stB1543 := tx_loop (m := 1) (by kernel_rfl) rfl (.next (tB1542 hK) (.last (tB1545 hK)))
theorem tB1547 {W : World} (hK : KB W) : TX W pB51 stB1417.act stB1417.st .normal stB1543 := tx_block (by kernel_rfl) (tB1546 hK)
theorem tB1548 {W : World} (hK : KB W) : TX W pB50 stB1415.act stB1415.st .normal stB1543 := triX_hds (k := 1) (L1 := stB1417) (hihB hK) (by kernel_rfl) runB1418 (tB1547 hK)
theorem tB1551 {W : World} (hK : KB W) : TF W Tryz.f82 pB131 stB1543.act stB1543.st (vvB469) stB1549.st := triFin_code (hihB hK) runB1550
theorem tB1552 {W : World} (hK : KB W) : TF W Tryz.f82 pB49 stB1415.act stB1415.st (vvB469) stB1549.st := tf_seq (by kernel_rfl) (tB1548 hK) (tB1551 hK)
theorem tB1553 {W : World} (hK : KB W) : TF W Tryz.f82 cdB82 ({ n := 52, t := PT.ofList 0 (PT.nil 8) vsB1414, defers := [] }) stB1412.st (vvB469) stB1549.st := triFin_hds (k := 4) (L1 := stB1415) (hihB hK) (by kernel_rfl) runB1416 (tB1552 hK)
theorem tB1554 {W : World} (hK : KB W) : TC W 82 vsB1414 stB1412.st (vvB469) stB1549.st := callT_fin Tryz.func82 bdB82 (by kernel_rfl) (n := 52) (by kernel_rfl) (by kernel_rfl) (tB1553 hK)
theorem tB1559 {W : World} (hK : KB W) : TX W pB46 stB1410.act stB1410.st .normal stB1557 := by
  refine tx_region (by kernel_rfl) ?_
  refine triOps_cut (i := 0) (j := 1) (L1 := stB1412) (hihB hK) (by kernel_rfl) runB1413 (by kernel_rfl) ?_
  refine triOps_call (i := 1) (f := 82) (fi := #[]) (ca := #[]) (v := vvB469) (L0 := stB1412) (Lc := stB1549) (L1 := stB1555) rfl rfl (by kernel_rfl) (by kernel_rfl) (by kernel_rfl) (by kernel_rfl) (tB1554 hK) runB1556 ?_
  exact triOps_end (i := 2) (L1 := stB1557) (hihB hK) runB1558 (by kernel_rfl)
theorem tB1562 {W : World} (hK : KB W) : TF W Tryz.f59 pB133 stB1557.act stB1557.st (.tuple #[.int .i64 2, .int .i64 0]) stB1560.st := triFin_code (hihB hK) runB1561
theorem tB1563 {W : World} (hK : KB W) : TF W Tryz.f59 pB45 stB1410.act stB1410.st (.tuple #[.int .i64 2, .int .i64 0]) stB1560.st := tf_seq (by kernel_rfl) (tB1559 hK) (tB1562 hK)
theorem tB1564 {W : World} (hK : KB W) : TF W Tryz.f59 cdB59 ({ n := 30, t := PT.ofList 0 (PT.nil 8) vsB1409, defers := [] }) stB1407.st (.tuple #[.int .i64 2, .int .i64 0]) stB1560.st := triFin_hds (k := 1) (L1 := stB1410) (hihB hK) (by kernel_rfl) runB1411 (tB1563 hK)
theorem tB1565 {W : World} (hK : KB W) : TC W 59 vsB1409 stB1407.st (.tuple #[.int .i64 2, .int .i64 0]) stB1560.st := callT_fin Tryz.func59 bdB59 (by kernel_rfl) (n := 30) (by kernel_rfl) (by kernel_rfl) (tB1564 hK)
theorem tB1570 {W : World} (hK : KB W) : TX W pB44 stB1405.act stB1405.st .normal stB1568 := by
  refine tx_region (by kernel_rfl) ?_
  refine triOps_cut (i := 0) (j := 1) (L1 := stB1407) (hihB hK) (by kernel_rfl) runB1408 (by kernel_rfl) ?_
  refine triOps_call (i := 1) (f := 59) (fi := #[]) (ca := #[]) (v := .tuple #[.int .i64 2, .int .i64 0]) (L0 := stB1407) (Lc := stB1560) (L1 := stB1566) rfl rfl (by kernel_rfl) (by kernel_rfl) (by kernel_rfl) (by kernel_rfl) (tB1565 hK) runB1567 ?_
  exact triOps_end (i := 2) (L1 := stB1568) (hihB hK) runB1569 (by kernel_rfl)
theorem tB1573 {W : World} (hK : KB W) : TX W pB134 stB1568.act stB1568.st .normal stB1571 := triX_code (hihB hK) runB1572
theorem tB1574 {W : World} (hK : KB W) : TX W pB43 stB1405.act stB1405.st .normal stB1571 := tx_seq (by kernel_rfl) (tB1570 hK) (tB1573 hK)
theorem tB1612 {W : World} (hK : KB W) : TF W Tryz.f110 pB106 stB1608.act stB1608.st (vvB490) stB1610.st := triFin_code (hihB hK) runB1611
theorem tB1613 {W : World} (hK : KB W) : TF W Tryz.f110 cdB110 ({ n := 62, t := PT.ofList 0 (PT.nil 8) vsB1607, defers := [] }) stB1605.st (vvB490) stB1610.st := triFin_hds (k := 3) (L1 := stB1608) (hihB hK) (by kernel_rfl) runB1609 (tB1612 hK)
theorem tB1614 {W : World} (hK : KB W) : TC W 110 vsB1607 stB1605.st (vvB490) stB1610.st := callT_fin Tryz.func110 bdB110 (by kernel_rfl) (n := 62) (by kernel_rfl) (by kernel_rfl) (tB1613 hK)
theorem tB1619 {W : World} (hK : KB W) : TX W pB95 stB1603.act stB1603.st .normal stB1617 := by
  refine tx_region (by kernel_rfl) ?_
  refine triOps_cut (i := 0) (j := 3) (L1 := stB1605) (hihB hK) (by kernel_rfl) runB1606 (by kernel_rfl) ?_
  refine triOps_call (i := 3) (f := 110) (fi := #[]) (ca := #[]) (v := vvB490) (L0 := stB1605) (Lc := stB1610) (L1 := stB1615) rfl rfl (by kernel_rfl) (by kernel_rfl) (by kernel_rfl) (by kernel_rfl) (tB1614 hK) runB1616 ?_
  exact triOps_end (i := 4) (L1 := stB1617) (hihB hK) runB1618 (by kernel_rfl)
theorem tB1622 {W : World} (hK : KB W) : TX W pB113 stB1617.act stB1617.st .normal stB1620 := triX_code (hihB hK) runB1621
theorem tB1623 {W : World} (hK : KB W) : TX W pB94 stB1603.act stB1603.st .normal stB1620 := tx_seq (by kernel_rfl) (tB1619 hK) (tB1622 hK)
theorem tB1624 {W : World} (hK : KB W) : TX W pB93 stB1601.act stB1601.st .normal stB1620 := triX_hds (k := 1) (L1 := stB1603) (hihB hK) (by kernel_rfl) runB1604 (tB1623 hK)
theorem tB1625 {W : World} (hK : KB W) : TX W pB92 stB1601.act stB1601.st .normal stB1620 := tx_through (by kernel_rfl) (by kernel_rfl) (tB1624 hK)
theorem tB1628 {W : World} (hK : KB W) : TX W pB114 stB1620.act stB1620.st .normal stB1626 := triX_code (hihB hK) runB1627
theorem tB1629 {W : World} (hK : KB W) : TX W pB91 stB1601.act stB1601.st .normal stB1626 := tx_seq (by kernel_rfl) (tB1625 hK) (tB1628 hK)
theorem tB1630 {W : World} (hK : KB W) : TX W pB90 stB1599.act stB1599.st .normal stB1626 := triX_hds (k := 2) (L1 := stB1601) (hihB hK) (by kernel_rfl) runB1602 (tB1629 hK)
theorem tB1633 {W : World} (hK : KB W) : TX W pB90 stB1626.act stB1626.st (.exit 0) stB1631 := triX_code (hihB hK) runB1632
theorem tB1634 {W : World} (hK : KB W) : TX W pB89 stB1599.act stB1599.st (.exit 0) stB1631 := tx_loop (m := 1) (by kernel_rfl) rfl (.next (tB1630 hK) (.last (tB1633 hK)))
theorem tB1635 {W : World} (hK : KB W) : TX W pB88 stB1599.act stB1599.st .normal stB1631 := tx_block (by kernel_rfl) (tB1634 hK)
theorem tB1636 {W : World} (hK : KB W) : TX W pB87 stB1597.act stB1597.st .normal stB1631 := triX_hds (k := 1) (L1 := stB1599) (hihB hK) (by kernel_rfl) runB1600 (tB1635 hK)
theorem tB1639 {W : World} (hK : KB W) : TF W Tryz.f88 pB115 stB1631.act stB1631.st (vvB496) stB1637.st := triFin_code (hihB hK) runB1638
theorem tB1640 {W : World} (hK : KB W) : TF W Tryz.f88 pB86 stB1597.act stB1597.st (vvB496) stB1637.st := tf_seq (by kernel_rfl) (tB1636 hK) (tB1639 hK)
theorem tB1641 {W : World} (hK : KB W) : TF W Tryz.f88 cdB88 ({ n := 89, t := PT.ofList 0 (PT.nil 8) vsB1596, defers := [] }) stB1594.st (vvB496) stB1637.st := triFin_hds (k := 7) (L1 := stB1597) (hihB hK) (by kernel_rfl) runB1598 (tB1640 hK)
theorem tB1642 {W : World} (hK : KB W) : TC W 88 vsB1596 stB1594.st (vvB496) stB1637.st := callT_fin Tryz.func88 bdB88 (by kernel_rfl) (n := 89) (by kernel_rfl) (by kernel_rfl) (tB1641 hK)
theorem tB1647 {W : World} (hK : KB W) : TX W pB77 stB1592.act stB1592.st .normal stB1645 := by
  refine tx_region (by kernel_rfl) ?_
  refine triOps_cut (i := 0) (j := 3) (L1 := stB1594) (hihB hK) (by kernel_rfl) runB1595 (by kernel_rfl) ?_
  refine triOps_call (i := 3) (f := 88) (fi := #[]) (ca := #[]) (v := vvB496) (L0 := stB1594) (Lc := stB1637) (L1 := stB1643) rfl rfl (by kernel_rfl) (by kernel_rfl) (by kernel_rfl) (by kernel_rfl) (tB1642 hK) runB1644 ?_
  exact triOps_end (i := 4) (L1 := stB1645) (hihB hK) runB1646 (by kernel_rfl)
theorem tB1650 {W : World} (hK : KB W) : TX W pB122 stB1645.act stB1645.st .normal stB1648 := triX_code (hihB hK) runB1649
theorem tB1651 {W : World} (hK : KB W) : TX W pB76 stB1592.act stB1592.st .normal stB1648 := tx_seq (by kernel_rfl) (tB1647 hK) (tB1650 hK)
theorem tB1652 {W : World} (hK : KB W) : TX W pB75 stB1590.act stB1590.st .normal stB1648 := triX_hds (k := 1) (L1 := stB1592) (hihB hK) (by kernel_rfl) runB1593 (tB1651 hK)
theorem tB1653 {W : World} (hK : KB W) : TX W pB74 stB1590.act stB1590.st .normal stB1648 := tx_through (by kernel_rfl) (by kernel_rfl) (tB1652 hK)
theorem tB1656 {W : World} (hK : KB W) : TX W pB124 stB1648.act stB1648.st .normal stB1654 := triX_code (hihB hK) runB1655
theorem tB1657 {W : World} (hK : KB W) : TX W pB73 stB1590.act stB1590.st .normal stB1654 := tx_seq (by kernel_rfl) (tB1653 hK) (tB1656 hK)
theorem tB1658 {W : World} (hK : KB W) : TX W pB72 stB1588.act stB1588.st .normal stB1654 := triX_hds (k := 2) (L1 := stB1590) (hihB hK) (by kernel_rfl) runB1591 (tB1657 hK)
theorem tB1661 {W : World} (hK : KB W) : TX W pB72 stB1654.act stB1654.st (.exit 0) stB1659 := triX_code (hihB hK) runB1660
theorem tB1662 {W : World} (hK : KB W) : TX W pB71 stB1588.act stB1588.st (.exit 0) stB1659 := tx_loop (m := 1) (by kernel_rfl) rfl (.next (tB1658 hK) (.last (tB1661 hK)))
theorem tB1663 {W : World} (hK : KB W) : TX W pB70 stB1588.act stB1588.st .normal stB1659 := tx_block (by kernel_rfl) (tB1662 hK)
theorem tB1664 {W : World} (hK : KB W) : TX W pB69 stB1586.act stB1586.st .normal stB1659 := triX_hds (k := 1) (L1 := stB1588) (hihB hK) (by kernel_rfl) runB1589 (tB1663 hK)
theorem tB1667 {W : World} (hK : KB W) : TF W Tryz.f62 pB125 stB1659.act stB1659.st (vvB498) stB1665.st := triFin_code (hihB hK) runB1666
theorem tB1668 {W : World} (hK : KB W) : TF W Tryz.f62 pB68 stB1586.act stB1586.st (vvB498) stB1665.st := tf_seq (by kernel_rfl) (tB1664 hK) (tB1667 hK)
theorem tB1669 {W : World} (hK : KB W) : TF W Tryz.f62 cdB62 ({ n := 46, t := PT.ofList 0 (PT.nil 8) vsB1585, defers := [] }) stB1583.st (vvB498) stB1665.st := triFin_hds (k := 4) (L1 := stB1586) (hihB hK) (by kernel_rfl) runB1587 (tB1668 hK)
theorem tB1670 {W : World} (hK : KB W) : TC W 62 vsB1585 stB1583.st (vvB498) stB1665.st := callT_fin Tryz.func62 bdB62 (by kernel_rfl) (n := 46) (by kernel_rfl) (by kernel_rfl) (tB1669 hK)
theorem tB1675 {W : World} (hK : KB W) : TX W pB149 stB1581.act stB1581.st .normal stB1673 := by
  refine tx_region (by kernel_rfl) ?_
  refine triOps_cut (i := 0) (j := 5) (L1 := stB1583) (hihB hK) (by kernel_rfl) runB1584 (by kernel_rfl) ?_
  refine triOps_call (i := 5) (f := 62) (fi := #[]) (ca := #[]) (v := vvB498) (L0 := stB1583) (Lc := stB1665) (L1 := stB1671) rfl rfl (by kernel_rfl) (by kernel_rfl) (by kernel_rfl) (by kernel_rfl) (tB1670 hK) runB1672 ?_
  exact triOps_end (i := 6) (L1 := stB1673) (hihB hK) runB1674 (by kernel_rfl)
theorem tB1676 {W : World} (hK : KB W) : TX W pB145 stB1579.act stB1579.st .normal stB1673 := triX_hds (k := 2) (L1 := stB1581) (hihB hK) (by kernel_rfl) runB1582 (tB1675 hK)
theorem tB1677 {W : World} (hK : KB W) : TX W pB144 stB1579.act stB1579.st .normal stB1673 := tx_through (by kernel_rfl) (by kernel_rfl) (tB1676 hK)
theorem tB1680 {W : World} (hK : KB W) : TX W pB176 stB1673.act stB1673.st .normal stB1678 := triX_code (hihB hK) runB1679
theorem tB1681 {W : World} (hK : KB W) : TX W pB143 stB1579.act stB1579.st .normal stB1678 := tx_seq (by kernel_rfl) (tB1677 hK) (tB1680 hK)
theorem tB1682 {W : World} (hK : KB W) : TX W pB142 stB1577.act stB1577.st .normal stB1678 := triX_hds (k := 2) (L1 := stB1579) (hihB hK) (by kernel_rfl) runB1580 (tB1681 hK)
theorem tB1685 {W : World} (hK : KB W) : TX W pB142 stB1678.act stB1678.st (.exit 0) stB1683 := triX_code (hihB hK) runB1684
theorem tB1686 {W : World} (hK : KB W) : TX W pB141 stB1577.act stB1577.st (.exit 0) stB1683 := tx_loop (m := 1) (by kernel_rfl) rfl (.next (tB1682 hK) (.last (tB1685 hK)))
theorem tB1687 {W : World} (hK : KB W) : TX W pB140 stB1577.act stB1577.st .normal stB1683 := tx_block (by kernel_rfl) (tB1686 hK)
theorem tB1688 {W : World} (hK : KB W) : TX W pB139 stB1575.act stB1575.st .normal stB1683 := triX_hds (k := 1) (L1 := stB1577) (hihB hK) (by kernel_rfl) runB1578 (tB1687 hK)
theorem tB1691 {W : World} (hK : KB W) : TF W Tryz.f44 pB177 stB1683.act stB1683.st (vvB501) stB1689.st := triFin_code (hihB hK) runB1690
theorem tB1692 {W : World} (hK : KB W) : TF W Tryz.f44 pB138 stB1575.act stB1575.st (vvB501) stB1689.st := tf_seq (by kernel_rfl) (tB1688 hK) (tB1691 hK)
theorem tB1693 {W : World} (hK : KB W) : TF W Tryz.f44 pB135 stB1571.act stB1571.st (vvB501) stB1689.st := triFin_hds (k := 2) (L1 := stB1575) (hihB hK) (by kernel_rfl) runB1576 (tB1692 hK)
theorem tB1694 {W : World} (hK : KB W) : TF W Tryz.f44 pB42 stB1405.act stB1405.st (vvB501) stB1689.st := tf_seq (by kernel_rfl) (tB1574 hK) (tB1693 hK)
theorem tB1695 {W : World} (hK : KB W) : TF W Tryz.f44 cdB44 ({ n := 66, t := PT.ofList 0 (PT.nil 8) vsB1404, defers := [] }) stB1402.st (vvB501) stB1689.st := triFin_hds (k := 1) (L1 := stB1405) (hihB hK) (by kernel_rfl) runB1406 (tB1694 hK)
theorem tB1696 {W : World} (hK : KB W) : TC W 44 vsB1404 stB1402.st (vvB501) stB1689.st := callT_fin Tryz.func44 bdB44 (by kernel_rfl) (n := 66) (by kernel_rfl) (by kernel_rfl) (tB1695 hK)
theorem tB1701 {W : World} (hK : KB W) : TX W pB41 stB1400.act stB1400.st .normal stB1699 := by
  refine tx_region (by kernel_rfl) ?_
  refine triOps_cut (i := 0) (j := 1) (L1 := stB1402) (hihB hK) (by kernel_rfl) runB1403 (by kernel_rfl) ?_
  refine triOps_call (i := 1) (f := 44) (fi := #[]) (ca := #[]) (v := vvB501) (L0 := stB1402) (Lc := stB1689) (L1 := stB1697) rfl rfl (by kernel_rfl) (by kernel_rfl) (by kernel_rfl) (by kernel_rfl) (tB1696 hK) runB1698 ?_
  exact triOps_end (i := 2) (L1 := stB1699) (hihB hK) runB1700 (by kernel_rfl)
theorem tB1704 {W : World} (hK : KB W) : TF W Tryz.f57 pB182 stB1699.act stB1699.st (vvB503) stB1702.st := triFin_code (hihB hK) runB1703
theorem tB1705 {W : World} (hK : KB W) : TF W Tryz.f57 pB40 stB1400.act stB1400.st (vvB503) stB1702.st := tf_seq (by kernel_rfl) (tB1701 hK) (tB1704 hK)
theorem tB1706 {W : World} (hK : KB W) : TF W Tryz.f57 cdB57 ({ n := 42, t := PT.ofList 0 (PT.nil 8) vsB1399, defers := [] }) stB1397.st (vvB503) stB1702.st := triFin_hds (k := 1) (L1 := stB1400) (hihB hK) (by kernel_rfl) runB1401 (tB1705 hK)
theorem tB1707 {W : World} (hK : KB W) : TC W 57 vsB1399 stB1397.st (vvB503) stB1702.st := callT_fin Tryz.func57 bdB57 (by kernel_rfl) (n := 42) (by kernel_rfl) (by kernel_rfl) (tB1706 hK)
theorem tB1712 {W : World} (hK : KB W) : TX W pB39 stB1395.act stB1395.st .normal stB1710 := by
  refine tx_region (by kernel_rfl) ?_
  refine triOps_cut (i := 0) (j := 1) (L1 := stB1397) (hihB hK) (by kernel_rfl) runB1398 (by kernel_rfl) ?_
  refine triOps_call (i := 1) (f := 57) (fi := #[]) (ca := #[]) (v := vvB503) (L0 := stB1397) (Lc := stB1702) (L1 := stB1708) rfl rfl (by kernel_rfl) (by kernel_rfl) (by kernel_rfl) (by kernel_rfl) (tB1707 hK) runB1709 ?_
  exact triOps_end (i := 2) (L1 := stB1710) (hihB hK) runB1711 (by kernel_rfl)
theorem tB1715 {W : World} (hK : KB W) : TF W Tryz.f43 pB185 stB1710.act stB1710.st (vvB504) stB1713.st := triFin_code (hihB hK) runB1714
theorem tB1716 {W : World} (hK : KB W) : TF W Tryz.f43 pB38 stB1395.act stB1395.st (vvB504) stB1713.st := tf_seq (by kernel_rfl) (tB1712 hK) (tB1715 hK)
theorem tB1717 {W : World} (hK : KB W) : TF W Tryz.f43 cdB43 ({ n := 45, t := PT.ofList 0 (PT.nil 8) vsB1394, defers := [] }) stB1392.st (vvB504) stB1713.st := triFin_hds (k := 1) (L1 := stB1395) (hihB hK) (by kernel_rfl) runB1396 (tB1716 hK)
theorem tB1718 {W : World} (hK : KB W) : TC W 43 vsB1394 stB1392.st (vvB504) stB1713.st := callT_fin Tryz.func43 bdB43 (by kernel_rfl) (n := 45) (by kernel_rfl) (by kernel_rfl) (tB1717 hK)
theorem tB1723 {W : World} (hK : KB W) : TX W pB37 stB1390.act stB1390.st .normal stB1721 := by
  refine tx_region (by kernel_rfl) ?_
  refine triOps_cut (i := 0) (j := 1) (L1 := stB1392) (hihB hK) (by kernel_rfl) runB1393 (by kernel_rfl) ?_
  refine triOps_call (i := 1) (f := 43) (fi := #[]) (ca := #[]) (v := vvB504) (L0 := stB1392) (Lc := stB1713) (L1 := stB1719) rfl rfl (by kernel_rfl) (by kernel_rfl) (by kernel_rfl) (by kernel_rfl) (tB1718 hK) runB1720 ?_
  exact triOps_end (i := 2) (L1 := stB1721) (hihB hK) runB1722 (by kernel_rfl)
theorem tB1781 {W : World} (hK : KB W) : TF W Tryz.f110 pB106 stB1777.act stB1777.st (vvB525) stB1779.st := triFin_code (hihB hK) runB1780
theorem tB1782 {W : World} (hK : KB W) : TF W Tryz.f110 cdB110 ({ n := 62, t := PT.ofList 0 (PT.nil 8) vsB1776, defers := [] }) stB1774.st (vvB525) stB1779.st := triFin_hds (k := 3) (L1 := stB1777) (hihB hK) (by kernel_rfl) runB1778 (tB1781 hK)
theorem tB1783 {W : World} (hK : KB W) : TC W 110 vsB1776 stB1774.st (vvB525) stB1779.st := callT_fin Tryz.func110 bdB110 (by kernel_rfl) (n := 62) (by kernel_rfl) (by kernel_rfl) (tB1782 hK)
theorem tB1788 {W : World} (hK : KB W) : TX W pB95 stB1772.act stB1772.st .normal stB1786 := by
  refine tx_region (by kernel_rfl) ?_
  refine triOps_cut (i := 0) (j := 3) (L1 := stB1774) (hihB hK) (by kernel_rfl) runB1775 (by kernel_rfl) ?_
  refine triOps_call (i := 3) (f := 110) (fi := #[]) (ca := #[]) (v := vvB525) (L0 := stB1774) (Lc := stB1779) (L1 := stB1784) rfl rfl (by kernel_rfl) (by kernel_rfl) (by kernel_rfl) (by kernel_rfl) (tB1783 hK) runB1785 ?_
  exact triOps_end (i := 4) (L1 := stB1786) (hihB hK) runB1787 (by kernel_rfl)
theorem tB1791 {W : World} (hK : KB W) : TX W pB113 stB1786.act stB1786.st .normal stB1789 := triX_code (hihB hK) runB1790
theorem tB1792 {W : World} (hK : KB W) : TX W pB94 stB1772.act stB1772.st .normal stB1789 := tx_seq (by kernel_rfl) (tB1788 hK) (tB1791 hK)
theorem tB1793 {W : World} (hK : KB W) : TX W pB93 stB1770.act stB1770.st .normal stB1789 := triX_hds (k := 1) (L1 := stB1772) (hihB hK) (by kernel_rfl) runB1773 (tB1792 hK)
theorem tB1794 {W : World} (hK : KB W) : TX W pB92 stB1770.act stB1770.st .normal stB1789 := tx_through (by kernel_rfl) (by kernel_rfl) (tB1793 hK)
theorem tB1797 {W : World} (hK : KB W) : TX W pB114 stB1789.act stB1789.st .normal stB1795 := triX_code (hihB hK) runB1796
theorem tB1798 {W : World} (hK : KB W) : TX W pB91 stB1770.act stB1770.st .normal stB1795 := tx_seq (by kernel_rfl) (tB1794 hK) (tB1797 hK)
theorem tB1799 {W : World} (hK : KB W) : TX W pB90 stB1768.act stB1768.st .normal stB1795 := triX_hds (k := 2) (L1 := stB1770) (hihB hK) (by kernel_rfl) runB1771 (tB1798 hK)
theorem tB1802 {W : World} (hK : KB W) : TX W pB90 stB1795.act stB1795.st (.exit 0) stB1800 := triX_code (hihB hK) runB1801
theorem tB1803 {W : World} (hK : KB W) : TX W pB89 stB1768.act stB1768.st (.exit 0) stB1800 := tx_loop (m := 1) (by kernel_rfl) rfl (.next (tB1799 hK) (.last (tB1802 hK)))
theorem tB1804 {W : World} (hK : KB W) : TX W pB88 stB1768.act stB1768.st .normal stB1800 := tx_block (by kernel_rfl) (tB1803 hK)
theorem tB1805 {W : World} (hK : KB W) : TX W pB87 stB1766.act stB1766.st .normal stB1800 := triX_hds (k := 1) (L1 := stB1768) (hihB hK) (by kernel_rfl) runB1769 (tB1804 hK)
theorem tB1808 {W : World} (hK : KB W) : TF W Tryz.f88 pB115 stB1800.act stB1800.st (vvB531) stB1806.st := triFin_code (hihB hK) runB1807
theorem tB1809 {W : World} (hK : KB W) : TF W Tryz.f88 pB86 stB1766.act stB1766.st (vvB531) stB1806.st := tf_seq (by kernel_rfl) (tB1805 hK) (tB1808 hK)
theorem tB1810 {W : World} (hK : KB W) : TF W Tryz.f88 cdB88 ({ n := 89, t := PT.ofList 0 (PT.nil 8) vsB1765, defers := [] }) stB1763.st (vvB531) stB1806.st := triFin_hds (k := 7) (L1 := stB1766) (hihB hK) (by kernel_rfl) runB1767 (tB1809 hK)
theorem tB1811 {W : World} (hK : KB W) : TC W 88 vsB1765 stB1763.st (vvB531) stB1806.st := callT_fin Tryz.func88 bdB88 (by kernel_rfl) (n := 89) (by kernel_rfl) (by kernel_rfl) (tB1810 hK)
theorem tB1816 {W : World} (hK : KB W) : TX W pB77 stB1761.act stB1761.st .normal stB1814 := by
  refine tx_region (by kernel_rfl) ?_
  refine triOps_cut (i := 0) (j := 3) (L1 := stB1763) (hihB hK) (by kernel_rfl) runB1764 (by kernel_rfl) ?_
  refine triOps_call (i := 3) (f := 88) (fi := #[]) (ca := #[]) (v := vvB531) (L0 := stB1763) (Lc := stB1806) (L1 := stB1812) rfl rfl (by kernel_rfl) (by kernel_rfl) (by kernel_rfl) (by kernel_rfl) (tB1811 hK) runB1813 ?_
  exact triOps_end (i := 4) (L1 := stB1814) (hihB hK) runB1815 (by kernel_rfl)
theorem tB1819 {W : World} (hK : KB W) : TX W pB122 stB1814.act stB1814.st .normal stB1817 := triX_code (hihB hK) runB1818
theorem tB1820 {W : World} (hK : KB W) : TX W pB76 stB1761.act stB1761.st .normal stB1817 := tx_seq (by kernel_rfl) (tB1816 hK) (tB1819 hK)
theorem tB1821 {W : World} (hK : KB W) : TX W pB75 stB1759.act stB1759.st .normal stB1817 := triX_hds (k := 1) (L1 := stB1761) (hihB hK) (by kernel_rfl) runB1762 (tB1820 hK)
theorem tB1822 {W : World} (hK : KB W) : TX W pB74 stB1759.act stB1759.st .normal stB1817 := tx_through (by kernel_rfl) (by kernel_rfl) (tB1821 hK)
theorem tB1825 {W : World} (hK : KB W) : TX W pB124 stB1817.act stB1817.st .normal stB1823 := triX_code (hihB hK) runB1824
theorem tB1826 {W : World} (hK : KB W) : TX W pB73 stB1759.act stB1759.st .normal stB1823 := tx_seq (by kernel_rfl) (tB1822 hK) (tB1825 hK)
theorem tB1827 {W : World} (hK : KB W) : TX W pB72 stB1757.act stB1757.st .normal stB1823 := triX_hds (k := 2) (L1 := stB1759) (hihB hK) (by kernel_rfl) runB1760 (tB1826 hK)
theorem tB1830 {W : World} (hK : KB W) : TX W pB72 stB1823.act stB1823.st (.exit 0) stB1828 := triX_code (hihB hK) runB1829
theorem tB1831 {W : World} (hK : KB W) : TX W pB71 stB1757.act stB1757.st (.exit 0) stB1828 := tx_loop (m := 1) (by kernel_rfl) rfl (.next (tB1827 hK) (.last (tB1830 hK)))
theorem tB1832 {W : World} (hK : KB W) : TX W pB70 stB1757.act stB1757.st .normal stB1828 := tx_block (by kernel_rfl) (tB1831 hK)
theorem tB1833 {W : World} (hK : KB W) : TX W pB69 stB1755.act stB1755.st .normal stB1828 := triX_hds (k := 1) (L1 := stB1757) (hihB hK) (by kernel_rfl) runB1758 (tB1832 hK)
theorem tB1836 {W : World} (hK : KB W) : TF W Tryz.f62 pB125 stB1828.act stB1828.st (vvB533) stB1834.st := triFin_code (hihB hK) runB1835
theorem tB1837 {W : World} (hK : KB W) : TF W Tryz.f62 pB68 stB1755.act stB1755.st (vvB533) stB1834.st := tf_seq (by kernel_rfl) (tB1833 hK) (tB1836 hK)
theorem tB1838 {W : World} (hK : KB W) : TF W Tryz.f62 cdB62 ({ n := 46, t := PT.ofList 0 (PT.nil 8) vsB1754, defers := [] }) stB1752.st (vvB533) stB1834.st := triFin_hds (k := 4) (L1 := stB1755) (hihB hK) (by kernel_rfl) runB1756 (tB1837 hK)
theorem tB1839 {W : World} (hK : KB W) : TC W 62 vsB1754 stB1752.st (vvB533) stB1834.st := callT_fin Tryz.func62 bdB62 (by kernel_rfl) (n := 46) (by kernel_rfl) (by kernel_rfl) (tB1838 hK)
theorem tB1844 {W : World} (hK : KB W) : TX W pB67 stB1750.act stB1750.st .normal stB1842 := by
  refine tx_region (by kernel_rfl) ?_
  refine triOps_cut (i := 0) (j := 2) (L1 := stB1752) (hihB hK) (by kernel_rfl) runB1753 (by kernel_rfl) ?_
  refine triOps_call (i := 2) (f := 62) (fi := #[]) (ca := #[]) (v := vvB533) (L0 := stB1752) (Lc := stB1834) (L1 := stB1840) rfl rfl (by kernel_rfl) (by kernel_rfl) (by kernel_rfl) (by kernel_rfl) (tB1839 hK) runB1841 ?_
  exact triOps_end (i := 3) (L1 := stB1842) (hihB hK) runB1843 (by kernel_rfl)
theorem tB1847 {W : World} (hK : KB W) : TF W Tryz.f100 pB127 stB1842.act stB1842.st (.tuple #[.int .i64 2, .int .i64 0]) stB1845.st := triFin_code (hihB hK) runB1846
theorem tB1848 {W : World} (hK : KB W) : TF W Tryz.f100 pB66 stB1750.act stB1750.st (.tuple #[.int .i64 2, .int .i64 0]) stB1845.st := tf_seq (by kernel_rfl) (tB1844 hK) (tB1847 hK)
theorem tB1849 {W : World} (hK : KB W) : TF W Tryz.f100 cdB100 ({ n := 17, t := PT.ofList 0 (PT.nil 8) vsB1749, defers := [] }) stB1747.st (.tuple #[.int .i64 2, .int .i64 0]) stB1845.st := triFin_hds (k := 1) (L1 := stB1750) (hihB hK) (by kernel_rfl) runB1751 (tB1848 hK)
theorem tB1850 {W : World} (hK : KB W) : TC W 100 vsB1749 stB1747.st (.tuple #[.int .i64 2, .int .i64 0]) stB1845.st := callT_fin Tryz.func100 bdB100 (by kernel_rfl) (n := 17) (by kernel_rfl) (by kernel_rfl) (tB1849 hK)
theorem tB1855 {W : World} (hK : KB W) : TX W pB63 stB1745.act stB1745.st .normal stB1853 := by
  refine tx_region (by kernel_rfl) ?_
  refine triOps_cut (i := 0) (j := 3) (L1 := stB1747) (hihB hK) (by kernel_rfl) runB1748 (by kernel_rfl) ?_
  refine triOps_call (i := 3) (f := 100) (fi := #[]) (ca := #[]) (v := .tuple #[.int .i64 2, .int .i64 0]) (L0 := stB1747) (Lc := stB1845) (L1 := stB1851) rfl rfl (by kernel_rfl) (by kernel_rfl) (by kernel_rfl) (by kernel_rfl) (tB1850 hK) runB1852 ?_
  exact triOps_end (i := 4) (L1 := stB1853) (hihB hK) runB1854 (by kernel_rfl)
theorem tB1858 {W : World} (hK : KB W) : TX W pB128 stB1853.act stB1853.st .normal stB1856 := triX_code (hihB hK) runB1857
theorem tB1859 {W : World} (hK : KB W) : TX W pB62 stB1745.act stB1745.st .normal stB1856 := tx_seq (by kernel_rfl) (tB1855 hK) (tB1858 hK)
theorem tB1860 {W : World} (hK : KB W) : TX W pB56 stB1743.act stB1743.st .normal stB1856 := triX_hds (k := 2) (L1 := stB1745) (hihB hK) (by kernel_rfl) runB1746 (tB1859 hK)
theorem tB1861 {W : World} (hK : KB W) : TX W pB55 stB1743.act stB1743.st .normal stB1856 := tx_through (by kernel_rfl) (by kernel_rfl) (tB1860 hK)
theorem tB1864 {W : World} (hK : KB W) : TX W pB130 stB1856.act stB1856.st .normal stB1862 := triX_code (hihB hK) runB1863
theorem tB1865 {W : World} (hK : KB W) : TX W pB54 stB1743.act stB1743.st .normal stB1862 := tx_seq (by kernel_rfl) (tB1861 hK) (tB1864 hK)
theorem tB1866 {W : World} (hK : KB W) : TX W pB53 stB1741.act stB1741.st .normal stB1862 := triX_hds (k := 2) (L1 := stB1743) (hihB hK) (by kernel_rfl) runB1744 (tB1865 hK)
theorem tB1869 {W : World} (hK : KB W) : TX W pB53 stB1862.act stB1862.st (.exit 0) stB1867 := triX_code (hihB hK) runB1868
theorem tB1870 {W : World} (hK : KB W) : TX W pB52 stB1741.act stB1741.st (.exit 0) stB1867 := tx_loop (m := 1) (by kernel_rfl) rfl (.next (tB1866 hK) (.last (tB1869 hK)))
theorem tB1871 {W : World} (hK : KB W) : TX W pB51 stB1741.act stB1741.st .normal stB1867 := tx_block (by kernel_rfl) (tB1870 hK)
theorem tB1872 {W : World} (hK : KB W) : TX W pB50 stB1739.act stB1739.st .normal stB1867 := triX_hds (k := 1) (L1 := stB1741) (hihB hK) (by kernel_rfl) runB1742 (tB1871 hK)
theorem tB1875 {W : World} (hK : KB W) : TF W Tryz.f82 pB131 stB1867.act stB1867.st (vvB534) stB1873.st := triFin_code (hihB hK) runB1874
theorem tB1876 {W : World} (hK : KB W) : TF W Tryz.f82 pB49 stB1739.act stB1739.st (vvB534) stB1873.st := tf_seq (by kernel_rfl) (tB1872 hK) (tB1875 hK)
theorem tB1877 {W : World} (hK : KB W) : TF W Tryz.f82 cdB82 ({ n := 52, t := PT.ofList 0 (PT.nil 8) vsB1738, defers := [] }) stB1736.st (vvB534) stB1873.st := triFin_hds (k := 4) (L1 := stB1739) (hihB hK) (by kernel_rfl) runB1740 (tB1876 hK)
theorem tB1878 {W : World} (hK : KB W) : TC W 82 vsB1738 stB1736.st (vvB534) stB1873.st := callT_fin Tryz.func82 bdB82 (by kernel_rfl) (n := 52) (by kernel_rfl) (by kernel_rfl) (tB1877 hK)
theorem tB1883 {W : World} (hK : KB W) : TX W pB46 stB1734.act stB1734.st .normal stB1881 := by
  refine tx_region (by kernel_rfl) ?_
  refine triOps_cut (i := 0) (j := 1) (L1 := stB1736) (hihB hK) (by kernel_rfl) runB1737 (by kernel_rfl) ?_
  refine triOps_call (i := 1) (f := 82) (fi := #[]) (ca := #[]) (v := vvB534) (L0 := stB1736) (Lc := stB1873) (L1 := stB1879) rfl rfl (by kernel_rfl) (by kernel_rfl) (by kernel_rfl) (by kernel_rfl) (tB1878 hK) runB1880 ?_
  exact triOps_end (i := 2) (L1 := stB1881) (hihB hK) runB1882 (by kernel_rfl)
theorem tB1886 {W : World} (hK : KB W) : TF W Tryz.f59 pB133 stB1881.act stB1881.st (.tuple #[.int .i64 2, .int .i64 0]) stB1884.st := triFin_code (hihB hK) runB1885
theorem tB1887 {W : World} (hK : KB W) : TF W Tryz.f59 pB45 stB1734.act stB1734.st (.tuple #[.int .i64 2, .int .i64 0]) stB1884.st := tf_seq (by kernel_rfl) (tB1883 hK) (tB1886 hK)
theorem tB1888 {W : World} (hK : KB W) : TF W Tryz.f59 cdB59 ({ n := 30, t := PT.ofList 0 (PT.nil 8) vsB1733, defers := [] }) stB1731.st (.tuple #[.int .i64 2, .int .i64 0]) stB1884.st := triFin_hds (k := 1) (L1 := stB1734) (hihB hK) (by kernel_rfl) runB1735 (tB1887 hK)
theorem tB1889 {W : World} (hK : KB W) : TC W 59 vsB1733 stB1731.st (.tuple #[.int .i64 2, .int .i64 0]) stB1884.st := callT_fin Tryz.func59 bdB59 (by kernel_rfl) (n := 30) (by kernel_rfl) (by kernel_rfl) (tB1888 hK)
theorem tB1894 {W : World} (hK : KB W) : TX W pB44 stB1729.act stB1729.st .normal stB1892 := by
  refine tx_region (by kernel_rfl) ?_
  refine triOps_cut (i := 0) (j := 1) (L1 := stB1731) (hihB hK) (by kernel_rfl) runB1732 (by kernel_rfl) ?_
  refine triOps_call (i := 1) (f := 59) (fi := #[]) (ca := #[]) (v := .tuple #[.int .i64 2, .int .i64 0]) (L0 := stB1731) (Lc := stB1884) (L1 := stB1890) rfl rfl (by kernel_rfl) (by kernel_rfl) (by kernel_rfl) (by kernel_rfl) (tB1889 hK) runB1891 ?_
  exact triOps_end (i := 2) (L1 := stB1892) (hihB hK) runB1893 (by kernel_rfl)
theorem tB1897 {W : World} (hK : KB W) : TX W pB134 stB1892.act stB1892.st .normal stB1895 := triX_code (hihB hK) runB1896
theorem tB1898 {W : World} (hK : KB W) : TX W pB43 stB1729.act stB1729.st .normal stB1895 := tx_seq (by kernel_rfl) (tB1894 hK) (tB1897 hK)
theorem tB1936 {W : World} (hK : KB W) : TF W Tryz.f110 pB106 stB1932.act stB1932.st (vvB555) stB1934.st := triFin_code (hihB hK) runB1935
theorem tB1937 {W : World} (hK : KB W) : TF W Tryz.f110 cdB110 ({ n := 62, t := PT.ofList 0 (PT.nil 8) vsB1931, defers := [] }) stB1929.st (vvB555) stB1934.st := triFin_hds (k := 3) (L1 := stB1932) (hihB hK) (by kernel_rfl) runB1933 (tB1936 hK)
theorem tB1938 {W : World} (hK : KB W) : TC W 110 vsB1931 stB1929.st (vvB555) stB1934.st := callT_fin Tryz.func110 bdB110 (by kernel_rfl) (n := 62) (by kernel_rfl) (by kernel_rfl) (tB1937 hK)
theorem tB1943 {W : World} (hK : KB W) : TX W pB95 stB1927.act stB1927.st .normal stB1941 := by
  refine tx_region (by kernel_rfl) ?_
  refine triOps_cut (i := 0) (j := 3) (L1 := stB1929) (hihB hK) (by kernel_rfl) runB1930 (by kernel_rfl) ?_
  refine triOps_call (i := 3) (f := 110) (fi := #[]) (ca := #[]) (v := vvB555) (L0 := stB1929) (Lc := stB1934) (L1 := stB1939) rfl rfl (by kernel_rfl) (by kernel_rfl) (by kernel_rfl) (by kernel_rfl) (tB1938 hK) runB1940 ?_
  exact triOps_end (i := 4) (L1 := stB1941) (hihB hK) runB1942 (by kernel_rfl)
theorem tB1946 {W : World} (hK : KB W) : TX W pB113 stB1941.act stB1941.st .normal stB1944 := triX_code (hihB hK) runB1945
theorem tB1947 {W : World} (hK : KB W) : TX W pB94 stB1927.act stB1927.st .normal stB1944 := tx_seq (by kernel_rfl) (tB1943 hK) (tB1946 hK)
theorem tB1948 {W : World} (hK : KB W) : TX W pB93 stB1925.act stB1925.st .normal stB1944 := triX_hds (k := 1) (L1 := stB1927) (hihB hK) (by kernel_rfl) runB1928 (tB1947 hK)
theorem tB1949 {W : World} (hK : KB W) : TX W pB92 stB1925.act stB1925.st .normal stB1944 := tx_through (by kernel_rfl) (by kernel_rfl) (tB1948 hK)
theorem tB1952 {W : World} (hK : KB W) : TX W pB114 stB1944.act stB1944.st .normal stB1950 := triX_code (hihB hK) runB1951
theorem tB1953 {W : World} (hK : KB W) : TX W pB91 stB1925.act stB1925.st .normal stB1950 := tx_seq (by kernel_rfl) (tB1949 hK) (tB1952 hK)
theorem tB1954 {W : World} (hK : KB W) : TX W pB90 stB1923.act stB1923.st .normal stB1950 := triX_hds (k := 2) (L1 := stB1925) (hihB hK) (by kernel_rfl) runB1926 (tB1953 hK)
theorem tB1957 {W : World} (hK : KB W) : TX W pB90 stB1950.act stB1950.st (.exit 0) stB1955 := triX_code (hihB hK) runB1956
theorem tB1958 {W : World} (hK : KB W) : TX W pB89 stB1923.act stB1923.st (.exit 0) stB1955 := tx_loop (m := 1) (by kernel_rfl) rfl (.next (tB1954 hK) (.last (tB1957 hK)))
theorem tB1959 {W : World} (hK : KB W) : TX W pB88 stB1923.act stB1923.st .normal stB1955 := tx_block (by kernel_rfl) (tB1958 hK)
theorem tB1960 {W : World} (hK : KB W) : TX W pB87 stB1921.act stB1921.st .normal stB1955 := triX_hds (k := 1) (L1 := stB1923) (hihB hK) (by kernel_rfl) runB1924 (tB1959 hK)
theorem tB1963 {W : World} (hK : KB W) : TF W Tryz.f88 pB115 stB1955.act stB1955.st (vvB561) stB1961.st := triFin_code (hihB hK) runB1962
theorem tB1964 {W : World} (hK : KB W) : TF W Tryz.f88 pB86 stB1921.act stB1921.st (vvB561) stB1961.st := tf_seq (by kernel_rfl) (tB1960 hK) (tB1963 hK)
theorem tB1965 {W : World} (hK : KB W) : TF W Tryz.f88 cdB88 ({ n := 89, t := PT.ofList 0 (PT.nil 8) vsB1920, defers := [] }) stB1918.st (vvB561) stB1961.st := triFin_hds (k := 7) (L1 := stB1921) (hihB hK) (by kernel_rfl) runB1922 (tB1964 hK)
theorem tB1966 {W : World} (hK : KB W) : TC W 88 vsB1920 stB1918.st (vvB561) stB1961.st := callT_fin Tryz.func88 bdB88 (by kernel_rfl) (n := 89) (by kernel_rfl) (by kernel_rfl) (tB1965 hK)
theorem tB1971 {W : World} (hK : KB W) : TX W pB77 stB1916.act stB1916.st .normal stB1969 := by
  refine tx_region (by kernel_rfl) ?_
  refine triOps_cut (i := 0) (j := 3) (L1 := stB1918) (hihB hK) (by kernel_rfl) runB1919 (by kernel_rfl) ?_
  refine triOps_call (i := 3) (f := 88) (fi := #[]) (ca := #[]) (v := vvB561) (L0 := stB1918) (Lc := stB1961) (L1 := stB1967) rfl rfl (by kernel_rfl) (by kernel_rfl) (by kernel_rfl) (by kernel_rfl) (tB1966 hK) runB1968 ?_
  exact triOps_end (i := 4) (L1 := stB1969) (hihB hK) runB1970 (by kernel_rfl)
theorem tB1974 {W : World} (hK : KB W) : TX W pB122 stB1969.act stB1969.st .normal stB1972 := triX_code (hihB hK) runB1973
theorem tB1975 {W : World} (hK : KB W) : TX W pB76 stB1916.act stB1916.st .normal stB1972 := tx_seq (by kernel_rfl) (tB1971 hK) (tB1974 hK)
theorem tB1976 {W : World} (hK : KB W) : TX W pB75 stB1914.act stB1914.st .normal stB1972 := triX_hds (k := 1) (L1 := stB1916) (hihB hK) (by kernel_rfl) runB1917 (tB1975 hK)
theorem tB1977 {W : World} (hK : KB W) : TX W pB74 stB1914.act stB1914.st .normal stB1972 := tx_through (by kernel_rfl) (by kernel_rfl) (tB1976 hK)
theorem tB1980 {W : World} (hK : KB W) : TX W pB124 stB1972.act stB1972.st .normal stB1978 := triX_code (hihB hK) runB1979
theorem tB1981 {W : World} (hK : KB W) : TX W pB73 stB1914.act stB1914.st .normal stB1978 := tx_seq (by kernel_rfl) (tB1977 hK) (tB1980 hK)
theorem tB1982 {W : World} (hK : KB W) : TX W pB72 stB1912.act stB1912.st .normal stB1978 := triX_hds (k := 2) (L1 := stB1914) (hihB hK) (by kernel_rfl) runB1915 (tB1981 hK)
theorem tB1985 {W : World} (hK : KB W) : TX W pB72 stB1978.act stB1978.st (.exit 0) stB1983 := triX_code (hihB hK) runB1984
theorem tB1986 {W : World} (hK : KB W) : TX W pB71 stB1912.act stB1912.st (.exit 0) stB1983 := tx_loop (m := 1) (by kernel_rfl) rfl (.next (tB1982 hK) (.last (tB1985 hK)))
theorem tB1987 {W : World} (hK : KB W) : TX W pB70 stB1912.act stB1912.st .normal stB1983 := tx_block (by kernel_rfl) (tB1986 hK)
theorem tB1988 {W : World} (hK : KB W) : TX W pB69 stB1910.act stB1910.st .normal stB1983 := triX_hds (k := 1) (L1 := stB1912) (hihB hK) (by kernel_rfl) runB1913 (tB1987 hK)
theorem tB1991 {W : World} (hK : KB W) : TF W Tryz.f62 pB125 stB1983.act stB1983.st (vvB563) stB1989.st := triFin_code (hihB hK) runB1990
theorem tB1992 {W : World} (hK : KB W) : TF W Tryz.f62 pB68 stB1910.act stB1910.st (vvB563) stB1989.st := tf_seq (by kernel_rfl) (tB1988 hK) (tB1991 hK)
theorem tB1993 {W : World} (hK : KB W) : TF W Tryz.f62 cdB62 ({ n := 46, t := PT.ofList 0 (PT.nil 8) vsB1909, defers := [] }) stB1907.st (vvB563) stB1989.st := triFin_hds (k := 4) (L1 := stB1910) (hihB hK) (by kernel_rfl) runB1911 (tB1992 hK)
theorem tB1994 {W : World} (hK : KB W) : TC W 62 vsB1909 stB1907.st (vvB563) stB1989.st := callT_fin Tryz.func62 bdB62 (by kernel_rfl) (n := 46) (by kernel_rfl) (by kernel_rfl) (tB1993 hK)
theorem tB1999 {W : World} (hK : KB W) : TX W pB149 stB1905.act stB1905.st .normal stB1997 := by
  refine tx_region (by kernel_rfl) ?_
  refine triOps_cut (i := 0) (j := 5) (L1 := stB1907) (hihB hK) (by kernel_rfl) runB1908 (by kernel_rfl) ?_
  refine triOps_call (i := 5) (f := 62) (fi := #[]) (ca := #[]) (v := vvB563) (L0 := stB1907) (Lc := stB1989) (L1 := stB1995) rfl rfl (by kernel_rfl) (by kernel_rfl) (by kernel_rfl) (by kernel_rfl) (tB1994 hK) runB1996 ?_
  exact triOps_end (i := 6) (L1 := stB1997) (hihB hK) runB1998 (by kernel_rfl)
theorem tB2000 {W : World} (hK : KB W) : TX W pB145 stB1903.act stB1903.st .normal stB1997 := triX_hds (k := 2) (L1 := stB1905) (hihB hK) (by kernel_rfl) runB1906 (tB1999 hK)
theorem tB2001 {W : World} (hK : KB W) : TX W pB144 stB1903.act stB1903.st .normal stB1997 := tx_through (by kernel_rfl) (by kernel_rfl) (tB2000 hK)
theorem tB2004 {W : World} (hK : KB W) : TX W pB176 stB1997.act stB1997.st .normal stB2002 := triX_code (hihB hK) runB2003
theorem tB2005 {W : World} (hK : KB W) : TX W pB143 stB1903.act stB1903.st .normal stB2002 := tx_seq (by kernel_rfl) (tB2001 hK) (tB2004 hK)
theorem tB2006 {W : World} (hK : KB W) : TX W pB142 stB1901.act stB1901.st .normal stB2002 := triX_hds (k := 2) (L1 := stB1903) (hihB hK) (by kernel_rfl) runB1904 (tB2005 hK)
theorem tB2009 {W : World} (hK : KB W) : TX W pB142 stB2002.act stB2002.st (.exit 0) stB2007 := triX_code (hihB hK) runB2008
theorem tB2010 {W : World} (hK : KB W) : TX W pB141 stB1901.act stB1901.st (.exit 0) stB2007 := tx_loop (m := 1) (by kernel_rfl) rfl (.next (tB2006 hK) (.last (tB2009 hK)))
theorem tB2011 {W : World} (hK : KB W) : TX W pB140 stB1901.act stB1901.st .normal stB2007 := tx_block (by kernel_rfl) (tB2010 hK)
theorem tB2012 {W : World} (hK : KB W) : TX W pB139 stB1899.act stB1899.st .normal stB2007 := triX_hds (k := 1) (L1 := stB1901) (hihB hK) (by kernel_rfl) runB1902 (tB2011 hK)
theorem tB2015 {W : World} (hK : KB W) : TF W Tryz.f44 pB177 stB2007.act stB2007.st (vvB566) stB2013.st := triFin_code (hihB hK) runB2014
theorem tB2016 {W : World} (hK : KB W) : TF W Tryz.f44 pB138 stB1899.act stB1899.st (vvB566) stB2013.st := tf_seq (by kernel_rfl) (tB2012 hK) (tB2015 hK)
theorem tB2017 {W : World} (hK : KB W) : TF W Tryz.f44 pB135 stB1895.act stB1895.st (vvB566) stB2013.st := triFin_hds (k := 2) (L1 := stB1899) (hihB hK) (by kernel_rfl) runB1900 (tB2016 hK)
theorem tB2018 {W : World} (hK : KB W) : TF W Tryz.f44 pB42 stB1729.act stB1729.st (vvB566) stB2013.st := tf_seq (by kernel_rfl) (tB1898 hK) (tB2017 hK)
theorem tB2019 {W : World} (hK : KB W) : TF W Tryz.f44 cdB44 ({ n := 66, t := PT.ofList 0 (PT.nil 8) vsB1728, defers := [] }) stB1726.st (vvB566) stB2013.st := triFin_hds (k := 1) (L1 := stB1729) (hihB hK) (by kernel_rfl) runB1730 (tB2018 hK)
theorem tB2020 {W : World} (hK : KB W) : TC W 44 vsB1728 stB1726.st (vvB566) stB2013.st := callT_fin Tryz.func44 bdB44 (by kernel_rfl) (n := 66) (by kernel_rfl) (by kernel_rfl) (tB2019 hK)
theorem tB2025 {W : World} (hK : KB W) : TX W pB190 stB1724.act stB1724.st .normal stB2023 := by
  refine tx_region (by kernel_rfl) ?_
  refine triOps_cut (i := 0) (j := 1) (L1 := stB1726) (hihB hK) (by kernel_rfl) runB1727 (by kernel_rfl) ?_
  refine triOps_call (i := 1) (f := 44) (fi := #[]) (ca := #[]) (v := vvB566) (L0 := stB1726) (Lc := stB2013) (L1 := stB2021) rfl rfl (by kernel_rfl) (by kernel_rfl) (by kernel_rfl) (by kernel_rfl) (tB2020 hK) runB2022 ?_
  exact triOps_end (i := 2) (L1 := stB2023) (hihB hK) runB2024 (by kernel_rfl)
theorem tB2034 {W : World} (hK : KB W) : TX W pB256 stB2030.act stB2030.st (.exit 2) stB2032 := triX_code (hihB hK) runB2033
theorem tB2035 {W : World} (hK : KB W) : TX W pB255 stB2026.act stB2026.st (.exit 2) stB2032 := tx_loop (m := 2) (by kernel_rfl) rfl (rounds_run (hihB hK) runB2029 (rounds_run (hihB hK) runB2031 (.last (tB2034 hK))))
theorem tB2036 {W : World} (hK : KB W) : TX W pB254 stB2026.act stB2026.st .normal stB2032 := tx_block (by kernel_rfl) (tB2035 hK)
theorem tB2037 {W : World} (hK : KB W) : TX W pB253 stB2023.act stB2023.st .normal stB2032 := triX_hds (k := 2) (L1 := stB2026) (hihB hK) (by kernel_rfl) runB2027 (tB2036 hK)
theorem tB2038 {W : World} (hK : KB W) : TX W pB189 stB1724.act stB1724.st .normal stB2032 := tx_seq (by kernel_rfl) (tB2025 hK) (tB2037 hK)
theorem tB2039 {W : World} (hK : KB W) : TX W pB188 stB1721.act stB1721.st .normal stB2032 := triX_hds (k := 2) (L1 := stB1724) (hihB hK) (by kernel_rfl) runB1725 (tB2038 hK)
theorem tB2040 {W : World} (hK : KB W) : TX W pB36 stB1390.act stB1390.st .normal stB2032 := tx_seq (by kernel_rfl) (tB1723 hK) (tB2039 hK)
theorem tB2041 {W : World} (hK : KB W) : TX W pB33 stB1388.act stB1388.st .normal stB2032 := triX_hds (k := 1) (L1 := stB1390) (hihB hK) (by kernel_rfl) runB1391 (tB2040 hK)
theorem tB2042 {W : World} (hK : KB W) : TX W pB32 stB1388.act stB1388.st .normal stB2032 := tx_through (by kernel_rfl) (by kernel_rfl) (tB2041 hK)
theorem tB2045 {W : World} (hK : KB W) : TX W pB271 stB2032.act stB2032.st .normal stB2043 := triX_code (hihB hK) runB2044
theorem tB2046 {W : World} (hK : KB W) : TX W pB31 stB1388.act stB1388.st .normal stB2043 := tx_seq (by kernel_rfl) (tB2042 hK) (tB2045 hK)
theorem tB2047 {W : World} (hK : KB W) : TX W pB30 stB1386.act stB1386.st .normal stB2043 := triX_hds (k := 2) (L1 := stB1388) (hihB hK) (by kernel_rfl) runB1389 (tB2046 hK)
theorem tB2069 {W : World} (hK : KB W) : TF W Tryz.f44 pB581 stB2065.act stB2065.st (vvB585) stB2067.st := triFin_code (hihB hK) runB2068
theorem tB2070 {W : World} (hK : KB W) : TF W Tryz.f44 cdB44 ({ n := 66, t := PT.ofList 0 (PT.nil 8) vsB2064, defers := [] }) stB2062.st (vvB585) stB2067.st := triFin_hds (k := 4) (L1 := stB2065) (hihB hK) (by kernel_rfl) runB2066 (tB2069 hK)
theorem tB2071 {W : World} (hK : KB W) : TC W 44 vsB2064 stB2062.st (vvB585) stB2067.st := callT_fin Tryz.func44 bdB44 (by kernel_rfl) (n := 66) (by kernel_rfl) (by kernel_rfl) (tB2070 hK)
theorem tB2076 {W : World} (hK : KB W) : TX W pB41 stB2060.act stB2060.st .normal stB2074 := by
  refine tx_region (by kernel_rfl) ?_
  refine triOps_cut (i := 0) (j := 1) (L1 := stB2062) (hihB hK) (by kernel_rfl) runB2063 (by kernel_rfl) ?_
  refine triOps_call (i := 1) (f := 44) (fi := #[]) (ca := #[]) (v := vvB585) (L0 := stB2062) (Lc := stB2067) (L1 := stB2072) rfl rfl (by kernel_rfl) (by kernel_rfl) (by kernel_rfl) (by kernel_rfl) (tB2071 hK) runB2073 ?_
  exact triOps_end (i := 2) (L1 := stB2074) (hihB hK) runB2075 (by kernel_rfl)
theorem tB2079 {W : World} (hK : KB W) : TF W Tryz.f57 pB182 stB2074.act stB2074.st (vvB586) stB2077.st := triFin_code (hihB hK) runB2078
theorem tB2080 {W : World} (hK : KB W) : TF W Tryz.f57 pB40 stB2060.act stB2060.st (vvB586) stB2077.st := tf_seq (by kernel_rfl) (tB2076 hK) (tB2079 hK)
theorem tB2081 {W : World} (hK : KB W) : TF W Tryz.f57 cdB57 ({ n := 42, t := PT.ofList 0 (PT.nil 8) vsB2059, defers := [] }) stB2057.st (vvB586) stB2077.st := triFin_hds (k := 1) (L1 := stB2060) (hihB hK) (by kernel_rfl) runB2061 (tB2080 hK)
theorem tB2082 {W : World} (hK : KB W) : TC W 57 vsB2059 stB2057.st (vvB586) stB2077.st := callT_fin Tryz.func57 bdB57 (by kernel_rfl) (n := 42) (by kernel_rfl) (by kernel_rfl) (tB2081 hK)
theorem tB2087 {W : World} (hK : KB W) : TX W pB39 stB2055.act stB2055.st .normal stB2085 := by
  refine tx_region (by kernel_rfl) ?_
  refine triOps_cut (i := 0) (j := 1) (L1 := stB2057) (hihB hK) (by kernel_rfl) runB2058 (by kernel_rfl) ?_
  refine triOps_call (i := 1) (f := 57) (fi := #[]) (ca := #[]) (v := vvB586) (L0 := stB2057) (Lc := stB2077) (L1 := stB2083) rfl rfl (by kernel_rfl) (by kernel_rfl) (by kernel_rfl) (by kernel_rfl) (tB2082 hK) runB2084 ?_
  exact triOps_end (i := 2) (L1 := stB2085) (hihB hK) runB2086 (by kernel_rfl)
theorem tB2090 {W : World} (hK : KB W) : TF W Tryz.f43 pB185 stB2085.act stB2085.st (vvB587) stB2088.st := triFin_code (hihB hK) runB2089
theorem tB2091 {W : World} (hK : KB W) : TF W Tryz.f43 pB38 stB2055.act stB2055.st (vvB587) stB2088.st := tf_seq (by kernel_rfl) (tB2087 hK) (tB2090 hK)
theorem tB2092 {W : World} (hK : KB W) : TF W Tryz.f43 cdB43 ({ n := 45, t := PT.ofList 0 (PT.nil 8) vsB2054, defers := [] }) stB2052.st (vvB587) stB2088.st := triFin_hds (k := 1) (L1 := stB2055) (hihB hK) (by kernel_rfl) runB2056 (tB2091 hK)
theorem tB2093 {W : World} (hK : KB W) : TC W 43 vsB2054 stB2052.st (vvB587) stB2088.st := callT_fin Tryz.func43 bdB43 (by kernel_rfl) (n := 45) (by kernel_rfl) (by kernel_rfl) (tB2092 hK)
theorem tB2098 {W : World} (hK : KB W) : TX W pB37 stB2050.act stB2050.st .normal stB2096 := by
  refine tx_region (by kernel_rfl) ?_
  refine triOps_cut (i := 0) (j := 1) (L1 := stB2052) (hihB hK) (by kernel_rfl) runB2053 (by kernel_rfl) ?_
  refine triOps_call (i := 1) (f := 43) (fi := #[]) (ca := #[]) (v := vvB587) (L0 := stB2052) (Lc := stB2088) (L1 := stB2094) rfl rfl (by kernel_rfl) (by kernel_rfl) (by kernel_rfl) (by kernel_rfl) (tB2093 hK) runB2095 ?_
  exact triOps_end (i := 2) (L1 := stB2096) (hihB hK) runB2097 (by kernel_rfl)
theorem tB2108 {W : World} (hK : KB W) : TF W Tryz.f44 pB581 stB2104.act stB2104.st (vvB590) stB2106.st := triFin_code (hihB hK) runB2107
theorem tB2109 {W : World} (hK : KB W) : TF W Tryz.f44 cdB44 ({ n := 66, t := PT.ofList 0 (PT.nil 8) vsB2103, defers := [] }) stB2101.st (vvB590) stB2106.st := triFin_hds (k := 4) (L1 := stB2104) (hihB hK) (by kernel_rfl) runB2105 (tB2108 hK)
theorem tB2110 {W : World} (hK : KB W) : TC W 44 vsB2103 stB2101.st (vvB590) stB2106.st := callT_fin Tryz.func44 bdB44 (by kernel_rfl) (n := 66) (by kernel_rfl) (by kernel_rfl) (tB2109 hK)
theorem tB2115 {W : World} (hK : KB W) : TX W pB190 stB2099.act stB2099.st .normal stB2113 := by
  refine tx_region (by kernel_rfl) ?_
  refine triOps_cut (i := 0) (j := 1) (L1 := stB2101) (hihB hK) (by kernel_rfl) runB2102 (by kernel_rfl) ?_
  refine triOps_call (i := 1) (f := 44) (fi := #[]) (ca := #[]) (v := vvB590) (L0 := stB2101) (Lc := stB2106) (L1 := stB2111) rfl rfl (by kernel_rfl) (by kernel_rfl) (by kernel_rfl) (by kernel_rfl) (tB2110 hK) runB2112 ?_
  exact triOps_end (i := 2) (L1 := stB2113) (hihB hK) runB2114 (by kernel_rfl)
theorem tB2118 {W : World} (hK : KB W) : TX W pB253 stB2113.act stB2113.st .normal stB2116 := triX_code (hihB hK) runB2117
theorem tB2119 {W : World} (hK : KB W) : TX W pB189 stB2099.act stB2099.st .normal stB2116 := tx_seq (by kernel_rfl) (tB2115 hK) (tB2118 hK)
theorem tB2120 {W : World} (hK : KB W) : TX W pB188 stB2096.act stB2096.st .normal stB2116 := triX_hds (k := 2) (L1 := stB2099) (hihB hK) (by kernel_rfl) runB2100 (tB2119 hK)
theorem tB2121 {W : World} (hK : KB W) : TX W pB36 stB2050.act stB2050.st .normal stB2116 := tx_seq (by kernel_rfl) (tB2098 hK) (tB2120 hK)
theorem tB2122 {W : World} (hK : KB W) : TX W pB33 stB2048.act stB2048.st .normal stB2116 := triX_hds (k := 1) (L1 := stB2050) (hihB hK) (by kernel_rfl) runB2051 (tB2121 hK)
theorem tB2123 {W : World} (hK : KB W) : TX W pB32 stB2048.act stB2048.st .normal stB2116 := tx_through (by kernel_rfl) (by kernel_rfl) (tB2122 hK)
theorem tB2126 {W : World} (hK : KB W) : TX W pB271 stB2116.act stB2116.st .normal stB2124 := triX_code (hihB hK) runB2125
theorem tB2127 {W : World} (hK : KB W) : TX W pB31 stB2048.act stB2048.st .normal stB2124 := tx_seq (by kernel_rfl) (tB2123 hK) (tB2126 hK)
theorem tB2128 {W : World} (hK : KB W) : TX W pB30 stB2043.act stB2043.st .normal stB2124 := triX_hds (k := 2) (L1 := stB2048) (hihB hK) (by kernel_rfl) runB2049 (tB2127 hK)
theorem tB2131 {W : World} (hK : KB W) : TX W pB30 stB2124.act stB2124.st (.exit 0) stB2129 := triX_code (hihB hK) runB2130
theorem tB2132 {W : World} (hK : KB W) : TX W pB29 stB1386.act stB1386.st (.exit 0) stB2129 := tx_loop (m := 2) (by kernel_rfl) rfl (.next (tB2047 hK) (.next (tB2128 hK) (.last (tB2131 hK))))
theorem tB2133 {W : World} (hK : KB W) : TX W pB28 stB1386.act stB1386.st .normal stB2129 := tx_block (by kernel_rfl) (tB2132 hK)
theorem tB2134 {W : World} (hK : KB W) : TX W pB27 stB1384.act stB1384.st .normal stB2129 := triX_hds (k := 1) (L1 := stB1386) (hihB hK) (by kernel_rfl) runB1387 (tB2133 hK)
theorem tB2137 {W : World} (hK : KB W) : TF W Tryz.f21 pB423 stB2129.act stB2129.st (vvB597) stB2135.st := triFin_code (hihB hK) runB2136
theorem tB2138 {W : World} (hK : KB W) : TF W Tryz.f21 pB26 stB1384.act stB1384.st (vvB597) stB2135.st := tf_seq (by kernel_rfl) (tB2134 hK) (tB2137 hK)
theorem tB2139 {W : World} (hK : KB W) : TF W Tryz.f21 cdB21 ({ n := 79, t := PT.ofList 0 (PT.nil 8) vsB1383, defers := [] }) stB1381.st (vvB597) stB2135.st := triFin_hds (k := 4) (L1 := stB1384) (hihB hK) (by kernel_rfl) runB1385 (tB2138 hK)
theorem tB2140 {W : World} (hK : KB W) : TC W 21 vsB1383 stB1381.st (vvB597) stB2135.st := callT_fin Tryz.func21 bdB21 (by kernel_rfl) (n := 79) (by kernel_rfl) (by kernel_rfl) (tB2139 hK)
theorem tB2145 {W : World} (hK : KB W) : TX W pB430 stB1379.act stB1379.st .normal stB2143 := by
  refine tx_region (by kernel_rfl) ?_
  refine triOps_cut (i := 0) (j := 1) (L1 := stB1381) (hihB hK) (by kernel_rfl) runB1382 (by kernel_rfl) ?_
  refine triOps_call (i := 1) (f := 21) (fi := #[]) (ca := #[]) (v := vvB597) (L0 := stB1381) (Lc := stB2135) (L1 := stB2141) rfl rfl (by kernel_rfl) (by kernel_rfl) (by kernel_rfl) (by kernel_rfl) (tB2140 hK) runB2142 ?_
  exact triOps_end (i := 2) (L1 := stB2143) (hihB hK) runB2144 (by kernel_rfl)
theorem tB2148 {W : World} (hK : KB W) : TF W Tryz.f12 pB598 stB2143.act stB2143.st (vt) stB2146.st := triFin_code (hihB hK) runB2147
theorem tB2149 {W : World} (hK : KB W) : TF W Tryz.f12 pB429 stB1379.act stB1379.st (vt) stB2146.st := tf_seq (by kernel_rfl) (tB2145 hK) (tB2148 hK)
theorem tB2150 {W : World} (hK : KB W) : TF W Tryz.f12 cdB12 ({ n := 56, t := PT.ofList 0 (PT.nil 8) vsB1378, defers := [] }) stB1376.st (vt) stB2146.st := triFin_hds (k := 1) (L1 := stB1379) (hihB hK) (by kernel_rfl) runB1380 (tB2149 hK)
theorem tB2151 {W : World} (hK : KB W) : TC W 12 vsB1378 stB1376.st (vt) stB2146.st := callT_fin Tryz.func12 bdB12 (by kernel_rfl) (n := 56) (by kernel_rfl) (by kernel_rfl) (tB2150 hK)
theorem tB2156 {W : World} (hK : KB W) : TX W pB16 stB1.act stB1.st .normal stB2154 := by
  refine tx_region (by kernel_rfl) ?_
  refine triOps_cut (i := 0) (j := 9) (L1 := stB3) (hihB hK) (by kernel_rfl) runB4 (by kernel_rfl) ?_
  refine triOps_call (i := 9) (f := 11) (fi := #[]) (ca := #[]) (v := vt) (L0 := stB3) (Lc := stB1368) (L1 := stB1374) rfl rfl (by kernel_rfl) (by kernel_rfl) (by kernel_rfl) (by kernel_rfl) (tB1373 hK) runB1375 ?_
  refine triOps_cut (i := 10) (j := 13) (L1 := stB1376) (hihB hK) (by kernel_rfl) runB1377 (by kernel_rfl) ?_
  refine triOps_call (i := 13) (f := 12) (fi := #[]) (ca := #[]) (v := vt) (L0 := stB1376) (Lc := stB2146) (L1 := stB2152) rfl rfl (by kernel_rfl) (by kernel_rfl) (by kernel_rfl) (by kernel_rfl) (tB2151 hK) runB2153 ?_
  exact triOps_end (i := 14) (L1 := stB2154) (hihB hK) runB2155 (by kernel_rfl)
theorem tB2159 {W : World} (hK : KB W) : TX W pB599 stB2154.act stB2154.st .normal stB2157 := triX_code (hihB hK) runB2158
theorem tB2160 {W : World} (hK : KB W) : TX W pB15 stB1.act stB1.st .normal stB2157 := tx_seq (by kernel_rfl) (tB2156 hK) (tB2159 hK)
theorem tB2163 {W : World} (hK : KB W) : TF W Tryz.f3 pB600 stB2157.act stB2157.st (vt) stB2161.st := triFin_code (hihB hK) runB2162
theorem tB2164 {W : World} (hK : KB W) : TF W Tryz.f3 pB14 stB1.act stB1.st (vt) stB2161.st := tf_seq (by kernel_rfl) (tB2160 hK) (tB2163 hK)
theorem tB2165 {W : World} (hK : KB W) : TF W Tryz.f3 cdB3 ({ n := 238, t := PT.ofList 0 (PT.nil 8) vsB0, defers := [] }) start0 (vt) stB2161.st := triFin_hds (k := 3) (L1 := stB1) (hihB hK) (by kernel_rfl) runB2 (tB2164 hK)
theorem tB2166 {W : World} (hK : KB W) : TC W 3 vsB0 start0 (vt) stB2161.st := callT_fin Tryz.func3 bdB3 (by kernel_rfl) (n := 238) (by kernel_rfl) (by kernel_rfl) (tB2165 hK)

noncomputable def of0 : List Value := (dc Tryz.prog 9 116 Rows.laid_tactus_sign_uses).getD []
noncomputable def of1 : List Value := (dc Tryz.prog 9 229 Rows.laid_tactus_sign_classes).getD []
noncomputable def of2 : List Value := (dc Tryz.prog 9 65 Rows.laid_tactus_item_half).getD []
theorem listed_is : listed = [(0, of0), (1, of1), (2, of2)] := by kernel_rfl
theorem listed_eq : ∀ g l, (g, l) ∈ listed → (g = 0 ∧ l = of0) ∨ (g = 1 ∧ l = of1) ∨ (g = 2 ∧ l = of2) := by
  rw [listed_is]
  intro g l h
  simpa only [List.mem_cons, Prod.mk.injEq, List.not_mem_nil, or_false] using h
def Laids (laid : List (String × DataW Unit)) : Prop := ("tactus/sign.uses", Rows.laid_tactus_sign_uses) ∈ laid ∧ ("tactus/sign.classes", Rows.laid_tactus_sign_classes) ∈ laid ∧ ("tactus/item.half", Rows.laid_tactus_item_half) ∈ laid

def Met (W : World) : Prop := ∀ g l, (g, l) ∈ listed → ∃ (arr : Array Value) (e : TypeId) (fz : Nat × Nat), W.heap[g]? = some (.cells arr e fz) ∧ arr.toList = l
theorem listed_met {laid : List (String × DataW Unit)} (hm : Laids laid) {W : World} (h : laidMet Tryz.prog laid W) : Met W := by
  obtain ⟨ps, hv, _⟩ := h
  obtain ⟨m0, m1, m2⟩ := hm
  intro g l hgl
  rcases listed_eq g l hgl with ⟨rfl, rfl⟩ | ⟨rfl, rfl⟩ | ⟨rfl, rfl⟩
  · exact laid_cells laid ps hv _ _ m0 0 116 9 _ (by kernel_rfl) (by kernel_rfl) (by kernel_rfl)
  · exact laid_cells laid ps hv _ _ m1 1 229 9 _ (by kernel_rfl) (by kernel_rfl) (by kernel_rfl)
  · exact laid_cells laid ps hv _ _ m2 2 65 9 _ (by kernel_rfl) (by kernel_rfl) (by kernel_rfl)

theorem listed_flat : ∀ g l, (g, l) ∈ listed → ∀ v ∈ l, flatV flatN v = true := by
  have : listed.all (fun x => x.2.all (flatV flatN)) = true := by kernel_rfl
  intro g l hgl v hv
  exact List.all_eq_true.1 (List.all_eq_true.1 this (g, l) hgl) v hv

theorem size_le {W : World} (h : Met W) : Tryz.prog.globals.size ≤ W.heap.size := by
  have h5 : (2, of2) ∈ listed := by
    rw [listed_is]; simp
  obtain ⟨arr, e, fz, h1, _⟩ := h 2 _ h5
  have h2 := (Array.getElem?_eq_some_iff.1 h1).1
  have h3 : Tryz.prog.globals.size = 3 := by kernel_rfl
  omega

theorem met_later {W W1 : World} (hk : Kept W W1) (h : Met W) : Met W1 := by
  intro g l hgl
  obtain ⟨arr, e, fz, h1, h2⟩ := h g l hgl
  exact ⟨arr, e, fz, by rw [hk.old g (Array.getElem?_eq_some_iff.1 h1).1]; exact h1, h2⟩

theorem known_A {W : World} (_ : Met W) : KnownSound Tryz.prog (kk noCall) W := ⟨ext_sound _, fun _ _ _ _ h => by cases h⟩
theorem true_A {W : World} (h : Met W) : Calls Tryz.prog 22 #[] W fun e w => e = .returned (.bool true) ∧ Kept W w :=
  call_true Tryz.func22 bdA22 (by kernel_rfl) (tA805 (known_A h)) (size_le h) h listed_flat

theorem known_B {W : World} (h : Met W) : KnownSound Tryz.prog (kk callK22) W := by
  refine ⟨ext_sound _, fun f args S v hv => ?_⟩
  simp only [kk, callK22] at hv
  split at hv
  · cases hb22 : Nat.beq f 22 with
    | true =>
      rw [hb22] at hv
      cases hv
      obtain rfl := of_nbeq hb22
      exact ⟨fun ρ => .bool _, Tryz.f22, _, Tryz.func22, bdA22, by kernel_rfl, zeroKnown fun w hk => true_A (met_later hk h)⟩
    | false =>
      rw [hb22] at hv
      simp only [cond_false] at hv
      cases hv
  · cases hv
theorem true_B {W : World} (h : Met W) : Calls Tryz.prog 3 #[] W fun e w => e = .returned (.bool true) ∧ Kept W w :=
  call_true Tryz.func3 bdB3 (by kernel_rfl) (tB2166 (known_B h)) (size_le h) h listed_flat

end Go.Proofs.YtpndamekpdajmaaGreatDoor

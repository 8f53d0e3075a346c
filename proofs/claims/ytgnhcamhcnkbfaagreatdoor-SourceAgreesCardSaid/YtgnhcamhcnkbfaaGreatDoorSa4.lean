/-
  The law's own examples hold: SourceAgrees returns true in every world that holds the listed variables.
-/
import Derived.Test.YtgnhcamhcnkbfaaGreatDoorSaR0
import Derived.Test.YtgnhcamhcnkbfaaGreatDoorSaR1
import Derived.Test.YtgnhcamhcnkbfaaGreatDoorSaR2
import Derived.Test.YtgnhcamhcnkbfaaGreatDoorSaR3
import Derived.Test.YtgnhcamhcnkbfaaGreatDoorSaR4
import Derived.Test.YtgnhcamhcnkbfaaGreatDoorSaR5
import Derived.Test.YtgnhcamhcnkbfaaGreatDoorSaR6
import Derived.Test.YtgnhcamhcnkbfaaGreatDoorSaR7
import Derived.Test.YtgnhcamhcnkbfaaGreatDoorSaR8
import Derived.Test.YtgnhcamhcnkbfaaGreatDoorSaR9
import Derived.Test.YtgnhcamhcnkbfaaGreatDoorSaR10
import Derived.Test.YtgnhcamhcnkbfaaGreatDoorSaR11
namespace Go.Proofs.YtgnhcamhcnkbfaaGreatDoor
open Go.Cm

set_option maxRecDepth 100000
theorem tA89 {W : World} (hK : KA W) : TF W Tryz.f128 pA117 stA85.act stA85.st (vvA123) stA87.st := triFin_code (hihA hK) runA88
theorem tA90 {W : World} (hK : KA W) : TF W Tryz.f128 cdA128 ({ n := 62, t := PT.ofList 0 (PT.nil 8) vsA84, defers := [] }) stA82.st (vvA123) stA87.st := triFin_hds (k := 3) (L1 := stA85) (hihA hK) (by kernel_rfl) runA86 (tA89 hK)
theorem tA91 {W : World} (hK : KA W) : TC W 128 vsA84 stA82.st (vvA123) stA87.st := callT_fin Tryz.func128 bdA128 (by kernel_rfl) (n := 62) (by kernel_rfl) (by kernel_rfl) (tA90 hK)
theorem tA96 {W : World} (hK : KA W) : TX W pA106 stA80.act stA80.st .normal stA94 := by
  refine tx_region (by kernel_rfl) ?_
  refine triOps_cut (i := 0) (j := 3) (L1 := stA82) (hihA hK) (by kernel_rfl) runA83 (by kernel_rfl) ?_
  refine triOps_call (i := 3) (f := 128) (fi := #[]) (ca := #[]) (v := vvA123) (L0 := stA82) (Lc := stA87) (L1 := stA92) rfl rfl (by kernel_rfl) (by kernel_rfl) (by kernel_rfl) (by kernel_rfl) (tA91 hK) runA93 ?_
  exact triOps_end (i := 4) (L1 := stA94) (hihA hK) runA95 (by kernel_rfl)
theorem tA99 {W : World} (hK : KA W) : TX W pA124 stA94.act stA94.st .normal stA97 := triX_code (hihA hK) runA98
theorem tA100 {W : World} (hK : KA W) : TX W pA105 stA80.act stA80.st .normal stA97 := tx_seq (by kernel_rfl) (tA96 hK) (tA99 hK)
theorem tA101 {W : World} (hK : KA W) : TX W pA104 stA78.act stA78.st .normal stA97 := triX_hds (k := 1) (L1 := stA80) (hihA hK) (by kernel_rfl) runA81 (tA100 hK)
theorem tA102 {W : World} (hK : KA W) : TX W pA103 stA78.act stA78.st .normal stA97 := tx_through (by kernel_rfl) (by kernel_rfl) (tA101 hK)
theorem tA105 {W : World} (hK : KA W) : TX W pA125 stA97.act stA97.st .normal stA103 := triX_code (hihA hK) runA104
theorem tA106 {W : World} (hK : KA W) : TX W pA102 stA78.act stA78.st .normal stA103 := tx_seq (by kernel_rfl) (tA102 hK) (tA105 hK)
theorem tA107 {W : World} (hK : KA W) : TX W pA101 stA76.act stA76.st .normal stA103 := triX_hds (k := 2) (L1 := stA78) (hihA hK) (by kernel_rfl) runA79 (tA106 hK)
theorem tA110 {W : World} (hK : KA W) : TX W pA101 stA103.act stA103.st (.exit 0) stA108 := triX_code (hihA hK) runA109
theorem tA111 {W : World} (hK : KA W) : TX W pA100 stA76.act stA76.st (.exit 0) stA108 := tx_loop (m := 1) (by kernel_rfl) rfl (.next (tA107 hK) (.last (tA110 hK)))
theorem tA112 {W : World} (hK : KA W) : TX W pA99 stA76.act stA76.st .normal stA108 := tx_block (by kernel_rfl) (tA111 hK)
theorem tA113 {W : World} (hK : KA W) : TX W pA98 stA74.act stA74.st .normal stA108 := triX_hds (k := 1) (L1 := stA76) (hihA hK) (by kernel_rfl) runA77 (tA112 hK)
theorem tA116 {W : World} (hK : KA W) : TF W Tryz.f106 pA126 stA108.act stA108.st (vvA132) stA114.st := triFin_code (hihA hK) runA115
theorem tA117 {W : World} (hK : KA W) : TF W Tryz.f106 pA97 stA74.act stA74.st (vvA132) stA114.st := tf_seq (by kernel_rfl) (tA113 hK) (tA116 hK)
theorem tA118 {W : World} (hK : KA W) : TF W Tryz.f106 cdA106 ({ n := 89, t := PT.ofList 0 (PT.nil 8) vsA73, defers := [] }) stA71.st (vvA132) stA114.st := triFin_hds (k := 7) (L1 := stA74) (hihA hK) (by kernel_rfl) runA75 (tA117 hK)
theorem tA119 {W : World} (hK : KA W) : TC W 106 vsA73 stA71.st (vvA132) stA114.st := callT_fin Tryz.func106 bdA106 (by kernel_rfl) (n := 89) (by kernel_rfl) (by kernel_rfl) (tA118 hK)
theorem tA124 {W : World} (hK : KA W) : TX W pA88 stA69.act stA69.st .normal stA122 := by
  refine tx_region (by kernel_rfl) ?_
  refine triOps_cut (i := 0) (j := 3) (L1 := stA71) (hihA hK) (by kernel_rfl) runA72 (by kernel_rfl) ?_
  refine triOps_call (i := 3) (f := 106) (fi := #[]) (ca := #[]) (v := vvA132) (L0 := stA71) (Lc := stA114) (L1 := stA120) rfl rfl (by kernel_rfl) (by kernel_rfl) (by kernel_rfl) (by kernel_rfl) (tA119 hK) runA121 ?_
  exact triOps_end (i := 4) (L1 := stA122) (hihA hK) runA123 (by kernel_rfl)
theorem tA127 {W : World} (hK : KA W) : TX W pA133 stA122.act stA122.st .normal stA125 := triX_code (hihA hK) runA126
theorem tA128 {W : World} (hK : KA W) : TX W pA87 stA69.act stA69.st .normal stA125 := tx_seq (by kernel_rfl) (tA124 hK) (tA127 hK)
theorem tA129 {W : World} (hK : KA W) : TX W pA86 stA67.act stA67.st .normal stA125 := triX_hds (k := 1) (L1 := stA69) (hihA hK) (by kernel_rfl) runA70 (tA128 hK)
theorem tA130 {W : World} (hK : KA W) : TX W pA85 stA67.act stA67.st .normal stA125 := tx_through (by kernel_rfl) (by kernel_rfl) (tA129 hK)
theorem tA133 {W : World} (hK : KA W) : TX W pA135 stA125.act stA125.st .normal stA131 := triX_code (hihA hK) runA132
theorem tA134 {W : World} (hK : KA W) : TX W pA84 stA67.act stA67.st .normal stA131 := tx_seq (by kernel_rfl) (tA130 hK) (tA133 hK)
theorem tA135 {W : World} (hK : KA W) : TX W pA83 stA65.act stA65.st .normal stA131 := triX_hds (k := 2) (L1 := stA67) (hihA hK) (by kernel_rfl) runA68 (tA134 hK)
theorem tA138 {W : World} (hK : KA W) : TX W pA83 stA131.act stA131.st (.exit 0) stA136 := triX_code (hihA hK) runA137
theorem tA139 {W : World} (hK : KA W) : TX W pA82 stA65.act stA65.st (.exit 0) stA136 := tx_loop (m := 1) (by kernel_rfl) rfl (.next (tA135 hK) (.last (tA138 hK)))
theorem tA140 {W : World} (hK : KA W) : TX W pA81 stA65.act stA65.st .normal stA136 := tx_block (by kernel_rfl) (tA139 hK)
theorem tA141 {W : World} (hK : KA W) : TX W pA80 stA63.act stA63.st .normal stA136 := triX_hds (k := 1) (L1 := stA65) (hihA hK) (by kernel_rfl) runA66 (tA140 hK)
theorem tA144 {W : World} (hK : KA W) : TF W Tryz.f85 pA136 stA136.act stA136.st (vvA137) stA142.st := triFin_code (hihA hK) runA143
theorem tA145 {W : World} (hK : KA W) : TF W Tryz.f85 pA79 stA63.act stA63.st (vvA137) stA142.st := tf_seq (by kernel_rfl) (tA141 hK) (tA144 hK)
theorem tA146 {W : World} (hK : KA W) : TF W Tryz.f85 cdA85 ({ n := 46, t := PT.ofList 0 (PT.nil 8) vsA62, defers := [] }) stA60.st (vvA137) stA142.st := triFin_hds (k := 4) (L1 := stA63) (hihA hK) (by kernel_rfl) runA64 (tA145 hK)
theorem tA147 {W : World} (hK : KA W) : TC W 85 vsA62 stA60.st (vvA137) stA142.st := callT_fin Tryz.func85 bdA85 (by kernel_rfl) (n := 46) (by kernel_rfl) (by kernel_rfl) (tA146 hK)
theorem tA152 {W : World} (hK : KA W) : TX W pA78 stA58.act stA58.st .normal stA150 := by
  refine tx_region (by kernel_rfl) ?_
  refine triOps_cut (i := 0) (j := 2) (L1 := stA60) (hihA hK) (by kernel_rfl) runA61 (by kernel_rfl) ?_
  refine triOps_call (i := 2) (f := 85) (fi := #[]) (ca := #[]) (v := vvA137) (L0 := stA60) (Lc := stA142) (L1 := stA148) rfl rfl (by kernel_rfl) (by kernel_rfl) (by kernel_rfl) (by kernel_rfl) (tA147 hK) runA149 ?_
  exact triOps_end (i := 3) (L1 := stA150) (hihA hK) runA151 (by kernel_rfl)
theorem tA155 {W : World} (hK : KA W) : TF W Tryz.f118 pA138 stA150.act stA150.st (.tuple #[.int .i64 2, .int .i64 0]) stA153.st := triFin_code (hihA hK) runA154
theorem tA156 {W : World} (hK : KA W) : TF W Tryz.f118 pA77 stA58.act stA58.st (.tuple #[.int .i64 2, .int .i64 0]) stA153.st := tf_seq (by kernel_rfl) (tA152 hK) (tA155 hK)
theorem tA157 {W : World} (hK : KA W) : TF W Tryz.f118 cdA118 ({ n := 17, t := PT.ofList 0 (PT.nil 8) vsA57, defers := [] }) stA55.st (.tuple #[.int .i64 2, .int .i64 0]) stA153.st := triFin_hds (k := 1) (L1 := stA58) (hihA hK) (by kernel_rfl) runA59 (tA156 hK)
theorem tA158 {W : World} (hK : KA W) : TC W 118 vsA57 stA55.st (.tuple #[.int .i64 2, .int .i64 0]) stA153.st := callT_fin Tryz.func118 bdA118 (by kernel_rfl) (n := 17) (by kernel_rfl) (by kernel_rfl) (tA157 hK)
theorem tA163 {W : World} (hK : KA W) : TX W pA74 stA53.act stA53.st .normal stA161 := by
  refine tx_region (by kernel_rfl) ?_
  refine triOps_cut (i := 0) (j := 3) (L1 := stA55) (hihA hK) (by kernel_rfl) runA56 (by kernel_rfl) ?_
  refine triOps_call (i := 3) (f := 118) (fi := #[]) (ca := #[]) (v := .tuple #[.int .i64 2, .int .i64 0]) (L0 := stA55) (Lc := stA153) (L1 := stA159) rfl rfl (by kernel_rfl) (by kernel_rfl) (by kernel_rfl) (by kernel_rfl) (tA158 hK) runA160 ?_
  exact triOps_end (i := 4) (L1 := stA161) (hihA hK) runA162 (by kernel_rfl)
theorem tA166 {W : World} (hK : KA W) : TX W pA139 stA161.act stA161.st .normal stA164 := triX_code (hihA hK) runA165
theorem tA167 {W : World} (hK : KA W) : TX W pA73 stA53.act stA53.st .normal stA164 := tx_seq (by kernel_rfl) (tA163 hK) (tA166 hK)
theorem tA168 {W : World} (hK : KA W) : TX W pA67 stA51.act stA51.st .normal stA164 := triX_hds (k := 2) (L1 := stA53) (hihA hK) (by kernel_rfl) runA54 (tA167 hK)
theorem tA169 {W : World} (hK : KA W) : TX W pA66 stA51.act stA51.st .normal stA164 := tx_through (by kernel_rfl) (by kernel_rfl) (tA168 hK)
theorem tA172 {W : World} (hK : KA W) : TX W pA141 stA164.act stA164.st .normal stA170 := triX_code (hihA hK) runA171
theorem tA173 {W : World} (hK : KA W) : TX W pA65 stA51.act stA51.st .normal stA170 := tx_seq (by kernel_rfl) (tA169 hK) (tA172 hK)
theorem tA174 {W : World} (hK : KA W) : TX W pA64 stA49.act stA49.st .normal stA170 := triX_hds (k := 2) (L1 := stA51) (hihA hK) (by kernel_rfl) runA52 (tA173 hK)
theorem tA177 {W : World} (hK : KA W) : TX W pA64 stA170.act stA170.st (.exit 0) stA175 := triX_code (hihA hK) runA176
theorem tA178 {W : World} (hK : KA W) : TX W pA63 stA49.act stA49.st (.exit 0) stA175 := tx_loop (m := 1) (by kernel_rfl) rfl (.next (tA174 hK) (.last (tA177 hK)))
theorem tA179 {W : World} (hK : KA W) : TX W pA62 stA49.act stA49.st .normal stA175 := tx_block (by kernel_rfl) (tA178 hK)
theorem tA180 {W : World} (hK : KA W) : TX W pA61 stA47.act stA47.st .normal stA175 := triX_hds (k := 1) (L1 := stA49) (hihA hK) (by kernel_rfl) runA50 (tA179 hK)
theorem tA183 {W : World} (hK : KA W) : TF W Tryz.f100 pA142 stA175.act stA175.st (vvA143) stA181.st := triFin_code (hihA hK) runA182
theorem tA184 {W : World} (hK : KA W) : TF W Tryz.f100 pA60 stA47.act stA47.st (vvA143) stA181.st := tf_seq (by kernel_rfl) (tA180 hK) (tA183 hK)
theorem tA185 {W : World} (hK : KA W) : TF W Tryz.f100 cdA100 ({ n := 52, t := PT.ofList 0 (PT.nil 8) vsA46, defers := [] }) stA44.st (vvA143) stA181.st := triFin_hds (k := 4) (L1 := stA47) (hihA hK) (by kernel_rfl) runA48 (tA184 hK)
theorem tA186 {W : World} (hK : KA W) : TC W 100 vsA46 stA44.st (vvA143) stA181.st := callT_fin Tryz.func100 bdA100 (by kernel_rfl) (n := 52) (by kernel_rfl) (by kernel_rfl) (tA185 hK)
theorem tA191 {W : World} (hK : KA W) : TX W pA57 stA42.act stA42.st .normal stA189 := by
  refine tx_region (by kernel_rfl) ?_
  refine triOps_cut (i := 0) (j := 1) (L1 := stA44) (hihA hK) (by kernel_rfl) runA45 (by kernel_rfl) ?_
  refine triOps_call (i := 1) (f := 100) (fi := #[]) (ca := #[]) (v := vvA143) (L0 := stA44) (Lc := stA181) (L1 := stA187) rfl rfl (by kernel_rfl) (by kernel_rfl) (by kernel_rfl) (by kernel_rfl) (tA186 hK) runA188 ?_
  exact triOps_end (i := 2) (L1 := stA189) (hihA hK) runA190 (by kernel_rfl)
theorem tA194 {W : World} (hK : KA W) : TF W Tryz.f82 pA144 stA189.act stA189.st (.tuple #[.int .i64 2, .int .i64 0]) stA192.st := triFin_code (hihA hK) runA193
theorem tA195 {W : World} (hK : KA W) : TF W Tryz.f82 pA56 stA42.act stA42.st (.tuple #[.int .i64 2, .int .i64 0]) stA192.st := tf_seq (by kernel_rfl) (tA191 hK) (tA194 hK)
theorem tA196 {W : World} (hK : KA W) : TF W Tryz.f82 cdA82 ({ n := 30, t := PT.ofList 0 (PT.nil 8) vsA41, defers := [] }) stA39.st (.tuple #[.int .i64 2, .int .i64 0]) stA192.st := triFin_hds (k := 1) (L1 := stA42) (hihA hK) (by kernel_rfl) runA43 (tA195 hK)
theorem tA197 {W : World} (hK : KA W) : TC W 82 vsA41 stA39.st (.tuple #[.int .i64 2, .int .i64 0]) stA192.st := callT_fin Tryz.func82 bdA82 (by kernel_rfl) (n := 30) (by kernel_rfl) (by kernel_rfl) (tA196 hK)
theorem tA202 {W : World} (hK : KA W) : TX W pA55 stA37.act stA37.st .normal stA200 := by
  refine tx_region (by kernel_rfl) ?_
  refine triOps_cut (i := 0) (j := 1) (L1 := stA39) (hihA hK) (by kernel_rfl) runA40 (by kernel_rfl) ?_
  refine triOps_call (i := 1) (f := 82) (fi := #[]) (ca := #[]) (v := .tuple #[.int .i64 2, .int .i64 0]) (L0 := stA39) (Lc := stA192) (L1 := stA198) rfl rfl (by kernel_rfl) (by kernel_rfl) (by kernel_rfl) (by kernel_rfl) (tA197 hK) runA199 ?_
  exact triOps_end (i := 2) (L1 := stA200) (hihA hK) runA201 (by kernel_rfl)
theorem tA205 {W : World} (hK : KA W) : TX W pA145 stA200.act stA200.st .normal stA203 := triX_code (hihA hK) runA204
theorem tA206 {W : World} (hK : KA W) : TX W pA54 stA37.act stA37.st .normal stA203 := tx_seq (by kernel_rfl) (tA202 hK) (tA205 hK)
theorem tA244 {W : World} (hK : KA W) : TF W Tryz.f128 pA117 stA240.act stA240.st (vvA177) stA242.st := triFin_code (hihA hK) runA243
theorem tA245 {W : World} (hK : KA W) : TF W Tryz.f128 cdA128 ({ n := 62, t := PT.ofList 0 (PT.nil 8) vsA239, defers := [] }) stA237.st (vvA177) stA242.st := triFin_hds (k := 3) (L1 := stA240) (hihA hK) (by kernel_rfl) runA241 (tA244 hK)
theorem tA246 {W : World} (hK : KA W) : TC W 128 vsA239 stA237.st (vvA177) stA242.st := callT_fin Tryz.func128 bdA128 (by kernel_rfl) (n := 62) (by kernel_rfl) (by kernel_rfl) (tA245 hK)
theorem tA251 {W : World} (hK : KA W) : TX W pA106 stA235.act stA235.st .normal stA249 := by
  refine tx_region (by kernel_rfl) ?_
  refine triOps_cut (i := 0) (j := 3) (L1 := stA237) (hihA hK) (by kernel_rfl) runA238 (by kernel_rfl) ?_
  refine triOps_call (i := 3) (f := 128) (fi := #[]) (ca := #[]) (v := vvA177) (L0 := stA237) (Lc := stA242) (L1 := stA247) rfl rfl (by kernel_rfl) (by kernel_rfl) (by kernel_rfl) (by kernel_rfl) (tA246 hK) runA248 ?_
  exact triOps_end (i := 4) (L1 := stA249) (hihA hK) runA250 (by kernel_rfl)
theorem tA254 {W : World} (hK : KA W) : TX W pA124 stA249.act stA249.st .normal stA252 := triX_code (hihA hK) runA253
theorem tA255 {W : World} (hK : KA W) : TX W pA105 stA235.act stA235.st .normal stA252 := tx_seq (by kernel_rfl) (tA251 hK) (tA254 hK)
theorem tA256 {W : World} (hK : KA W) : TX W pA104 stA233.act stA233.st .normal stA252 := triX_hds (k := 1) (L1 := stA235) (hihA hK) (by kernel_rfl) runA236 (tA255 hK)
theorem tA257 {W : World} (hK : KA W) : TX W pA103 stA233.act stA233.st .normal stA252 := tx_through (by kernel_rfl) (by kernel_rfl) (tA256 hK)
theorem tA260 {W : World} (hK : KA W) : TX W pA125 stA252.act stA252.st .normal stA258 := triX_code (hihA hK) runA259
theorem tA261 {W : World} (hK : KA W) : TX W pA102 stA233.act stA233.st .normal stA258 := tx_seq (by kernel_rfl) (tA257 hK) (tA260 hK)
theorem tA262 {W : World} (hK : KA W) : TX W pA101 stA231.act stA231.st .normal stA258 := triX_hds (k := 2) (L1 := stA233) (hihA hK) (by kernel_rfl) runA234 (tA261 hK)
theorem tA265 {W : World} (hK : KA W) : TX W pA101 stA258.act stA258.st (.exit 0) stA263 := triX_code (hihA hK) runA264
theorem tA266 {W : World} (hK : KA W) : TX W pA100 stA231.act stA231.st (.exit 0) stA263 := tx_loop (m := 1) (by kernel_rfl) rfl (.next (tA262 hK) (.last (tA265 hK)))
theorem tA267 {W : World} (hK : KA W) : TX W pA99 stA231.act stA231.st .normal stA263 := tx_block (by kernel_rfl) (tA266 hK)
theorem tA268 {W : World} (hK : KA W) : TX W pA98 stA229.act stA229.st .normal stA263 := triX_hds (k := 1) (L1 := stA231) (hihA hK) (by kernel_rfl) runA232 (tA267 hK)
theorem tA271 {W : World} (hK : KA W) : TF W Tryz.f106 pA126 stA263.act stA263.st (vvA183) stA269.st := triFin_code (hihA hK) runA270
theorem tA272 {W : World} (hK : KA W) : TF W Tryz.f106 pA97 stA229.act stA229.st (vvA183) stA269.st := tf_seq (by kernel_rfl) (tA268 hK) (tA271 hK)
theorem tA273 {W : World} (hK : KA W) : TF W Tryz.f106 cdA106 ({ n := 89, t := PT.ofList 0 (PT.nil 8) vsA228, defers := [] }) stA226.st (vvA183) stA269.st := triFin_hds (k := 7) (L1 := stA229) (hihA hK) (by kernel_rfl) runA230 (tA272 hK)
theorem tA274 {W : World} (hK : KA W) : TC W 106 vsA228 stA226.st (vvA183) stA269.st := callT_fin Tryz.func106 bdA106 (by kernel_rfl) (n := 89) (by kernel_rfl) (by kernel_rfl) (tA273 hK)
theorem tA279 {W : World} (hK : KA W) : TX W pA88 stA224.act stA224.st .normal stA277 := by
  refine tx_region (by kernel_rfl) ?_
  refine triOps_cut (i := 0) (j := 3) (L1 := stA226) (hihA hK) (by kernel_rfl) runA227 (by kernel_rfl) ?_
  refine triOps_call (i := 3) (f := 106) (fi := #[]) (ca := #[]) (v := vvA183) (L0 := stA226) (Lc := stA269) (L1 := stA275) rfl rfl (by kernel_rfl) (by kernel_rfl) (by kernel_rfl) (by kernel_rfl) (tA274 hK) runA276 ?_
  exact triOps_end (i := 4) (L1 := stA277) (hihA hK) runA278 (by kernel_rfl)
theorem tA282 {W : World} (hK : KA W) : TX W pA133 stA277.act stA277.st .normal stA280 := triX_code (hihA hK) runA281
theorem tA283 {W : World} (hK : KA W) : TX W pA87 stA224.act stA224.st .normal stA280 := tx_seq (by kernel_rfl) (tA279 hK) (tA282 hK)
theorem tA284 {W : World} (hK : KA W) : TX W pA86 stA222.act stA222.st .normal stA280 := triX_hds (k := 1) (L1 := stA224) (hihA hK) (by kernel_rfl) runA225 (tA283 hK)
theorem tA285 {W : World} (hK : KA W) : TX W pA85 stA222.act stA222.st .normal stA280 := tx_through (by kernel_rfl) (by kernel_rfl) (tA284 hK)
theorem tA288 {W : World} (hK : KA W) : TX W pA135 stA280.act stA280.st .normal stA286 := triX_code (hihA hK) runA287
theorem tA289 {W : World} (hK : KA W) : TX W pA84 stA222.act stA222.st .normal stA286 := tx_seq (by kernel_rfl) (tA285 hK) (tA288 hK)
theorem tA290 {W : World} (hK : KA W) : TX W pA83 stA220.act stA220.st .normal stA286 := triX_hds (k := 2) (L1 := stA222) (hihA hK) (by kernel_rfl) runA223 (tA289 hK)
theorem tA293 {W : World} (hK : KA W) : TX W pA83 stA286.act stA286.st (.exit 0) stA291 := triX_code (hihA hK) runA292
theorem tA294 {W : World} (hK : KA W) : TX W pA82 stA220.act stA220.st (.exit 0) stA291 := tx_loop (m := 1) (by kernel_rfl) rfl (.next (tA290 hK) (.last (tA293 hK)))
theorem tA295 {W : World} (hK : KA W) : TX W pA81 stA220.act stA220.st .normal stA291 := tx_block (by kernel_rfl) (tA294 hK)
theorem tA296 {W : World} (hK : KA W) : TX W pA80 stA218.act stA218.st .normal stA291 := triX_hds (k := 1) (L1 := stA220) (hihA hK) (by kernel_rfl) runA221 (tA295 hK)
theorem tA299 {W : World} (hK : KA W) : TF W Tryz.f85 pA136 stA291.act stA291.st (vvA185) stA297.st := triFin_code (hihA hK) runA298
theorem tA300 {W : World} (hK : KA W) : TF W Tryz.f85 pA79 stA218.act stA218.st (vvA185) stA297.st := tf_seq (by kernel_rfl) (tA296 hK) (tA299 hK)
theorem tA301 {W : World} (hK : KA W) : TF W Tryz.f85 cdA85 ({ n := 46, t := PT.ofList 0 (PT.nil 8) vsA217, defers := [] }) stA215.st (vvA185) stA297.st := triFin_hds (k := 4) (L1 := stA218) (hihA hK) (by kernel_rfl) runA219 (tA300 hK)
theorem tA302 {W : World} (hK : KA W) : TC W 85 vsA217 stA215.st (vvA185) stA297.st := callT_fin Tryz.func85 bdA85 (by kernel_rfl) (n := 46) (by kernel_rfl) (by kernel_rfl) (tA301 hK)
theorem tA307 {W : World} (hK : KA W) : TX W pA160 stA213.act stA213.st .normal stA305 := by
  refine tx_region (by kernel_rfl) ?_
  refine triOps_cut (i := 0) (j := 5) (L1 := stA215) (hihA hK) (by kernel_rfl) runA216 (by kernel_rfl) ?_
  refine triOps_call (i := 5) (f := 85) (fi := #[]) (ca := #[]) (v := vvA185) (L0 := stA215) (Lc := stA297) (L1 := stA303) rfl rfl (by kernel_rfl) (by kernel_rfl) (by kernel_rfl) (by kernel_rfl) (tA302 hK) runA304 ?_
  exact triOps_end (i := 6) (L1 := stA305) (hihA hK) runA306 (by kernel_rfl)
theorem tA308 {W : World} (hK : KA W) : TX W pA156 stA211.act stA211.st .normal stA305 := triX_hds (k := 2) (L1 := stA213) (hihA hK) (by kernel_rfl) runA214 (tA307 hK)
theorem tA309 {W : World} (hK : KA W) : TX W pA155 stA211.act stA211.st .normal stA305 := tx_through (by kernel_rfl) (by kernel_rfl) (tA308 hK)
theorem tA312 {W : World} (hK : KA W) : TX W pA187 stA305.act stA305.st .normal stA310 := triX_code (hihA hK) runA311
theorem tA313 {W : World} (hK : KA W) : TX W pA154 stA211.act stA211.st .normal stA310 := tx_seq (by kernel_rfl) (tA309 hK) (tA312 hK)
theorem tA314 {W : World} (hK : KA W) : TX W pA153 stA209.act stA209.st .normal stA310 := triX_hds (k := 2) (L1 := stA211) (hihA hK) (by kernel_rfl) runA212 (tA313 hK)
theorem tA317 {W : World} (hK : KA W) : TX W pA153 stA310.act stA310.st (.exit 0) stA315 := triX_code (hihA hK) runA316
theorem tA318 {W : World} (hK : KA W) : TX W pA152 stA209.act stA209.st (.exit 0) stA315 := tx_loop (m := 1) (by kernel_rfl) rfl (.next (tA314 hK) (.last (tA317 hK)))
theorem tA319 {W : World} (hK : KA W) : TX W pA151 stA209.act stA209.st .normal stA315 := tx_block (by kernel_rfl) (tA318 hK)
theorem tA320 {W : World} (hK : KA W) : TX W pA150 stA207.act stA207.st .normal stA315 := triX_hds (k := 1) (L1 := stA209) (hihA hK) (by kernel_rfl) runA210 (tA319 hK)
theorem tA323 {W : World} (hK : KA W) : TF W Tryz.f72 pA188 stA315.act stA315.st (vvA192) stA321.st := triFin_code (hihA hK) runA322
theorem tA324 {W : World} (hK : KA W) : TF W Tryz.f72 pA149 stA207.act stA207.st (vvA192) stA321.st := tf_seq (by kernel_rfl) (tA320 hK) (tA323 hK)
theorem tA325 {W : World} (hK : KA W) : TF W Tryz.f72 pA146 stA203.act stA203.st (vvA192) stA321.st := triFin_hds (k := 2) (L1 := stA207) (hihA hK) (by kernel_rfl) runA208 (tA324 hK)
theorem tA326 {W : World} (hK : KA W) : TF W Tryz.f72 pA53 stA37.act stA37.st (vvA192) stA321.st := tf_seq (by kernel_rfl) (tA206 hK) (tA325 hK)
theorem tA327 {W : World} (hK : KA W) : TF W Tryz.f72 cdA72 ({ n := 66, t := PT.ofList 0 (PT.nil 8) vsA36, defers := [] }) stA34.st (vvA192) stA321.st := triFin_hds (k := 1) (L1 := stA37) (hihA hK) (by kernel_rfl) runA38 (tA326 hK)
theorem tA328 {W : World} (hK : KA W) : TC W 72 vsA36 stA34.st (vvA192) stA321.st := callT_fin Tryz.func72 bdA72 (by kernel_rfl) (n := 66) (by kernel_rfl) (by kernel_rfl) (tA327 hK)
theorem tA333 {W : World} (hK : KA W) : TX W pA52 stA32.act stA32.st .normal stA331 := by
  refine tx_region (by kernel_rfl) ?_
  refine triOps_cut (i := 0) (j := 1) (L1 := stA34) (hihA hK) (by kernel_rfl) runA35 (by kernel_rfl) ?_
  refine triOps_call (i := 1) (f := 72) (fi := #[]) (ca := #[]) (v := vvA192) (L0 := stA34) (Lc := stA321) (L1 := stA329) rfl rfl (by kernel_rfl) (by kernel_rfl) (by kernel_rfl) (by kernel_rfl) (tA328 hK) runA330 ?_
  exact triOps_end (i := 2) (L1 := stA331) (hihA hK) runA332 (by kernel_rfl)
theorem tA336 {W : World} (hK : KA W) : TF W Tryz.f80 pA193 stA331.act stA331.st (vvA195) stA334.st := triFin_code (hihA hK) runA335
theorem tA337 {W : World} (hK : KA W) : TF W Tryz.f80 pA51 stA32.act stA32.st (vvA195) stA334.st := tf_seq (by kernel_rfl) (tA333 hK) (tA336 hK)
theorem tA338 {W : World} (hK : KA W) : TF W Tryz.f80 cdA80 ({ n := 42, t := PT.ofList 0 (PT.nil 8) vsA31, defers := [] }) stA29.st (vvA195) stA334.st := triFin_hds (k := 1) (L1 := stA32) (hihA hK) (by kernel_rfl) runA33 (tA337 hK)
theorem tA339 {W : World} (hK : KA W) : TC W 80 vsA31 stA29.st (vvA195) stA334.st := callT_fin Tryz.func80 bdA80 (by kernel_rfl) (n := 42) (by kernel_rfl) (by kernel_rfl) (tA338 hK)
theorem tA344 {W : World} (hK : KA W) : TX W pA50 stA27.act stA27.st .normal stA342 := by
  refine tx_region (by kernel_rfl) ?_
  refine triOps_cut (i := 0) (j := 1) (L1 := stA29) (hihA hK) (by kernel_rfl) runA30 (by kernel_rfl) ?_
  refine triOps_call (i := 1) (f := 80) (fi := #[]) (ca := #[]) (v := vvA195) (L0 := stA29) (Lc := stA334) (L1 := stA340) rfl rfl (by kernel_rfl) (by kernel_rfl) (by kernel_rfl) (by kernel_rfl) (tA339 hK) runA341 ?_
  exact triOps_end (i := 2) (L1 := stA342) (hihA hK) runA343 (by kernel_rfl)
theorem tA347 {W : World} (hK : KA W) : TF W Tryz.f71 pA196 stA342.act stA342.st (vvA198) stA345.st := triFin_code (hihA hK) runA346
theorem tA348 {W : World} (hK : KA W) : TF W Tryz.f71 pA49 stA27.act stA27.st (vvA198) stA345.st := tf_seq (by kernel_rfl) (tA344 hK) (tA347 hK)
theorem tA349 {W : World} (hK : KA W) : TF W Tryz.f71 cdA71 ({ n := 45, t := PT.ofList 0 (PT.nil 8) vsA26, defers := [] }) stA24.st (vvA198) stA345.st := triFin_hds (k := 1) (L1 := stA27) (hihA hK) (by kernel_rfl) runA28 (tA348 hK)
theorem tA350 {W : World} (hK : KA W) : TC W 71 vsA26 stA24.st (vvA198) stA345.st := callT_fin Tryz.func71 bdA71 (by kernel_rfl) (n := 45) (by kernel_rfl) (by kernel_rfl) (tA349 hK)
theorem tA355 {W : World} (hK : KA W) : TX W pA48 stA22.act stA22.st .normal stA353 := by
  refine tx_region (by kernel_rfl) ?_
  refine triOps_cut (i := 0) (j := 1) (L1 := stA24) (hihA hK) (by kernel_rfl) runA25 (by kernel_rfl) ?_
  refine triOps_call (i := 1) (f := 71) (fi := #[]) (ca := #[]) (v := vvA198) (L0 := stA24) (Lc := stA345) (L1 := stA351) rfl rfl (by kernel_rfl) (by kernel_rfl) (by kernel_rfl) (by kernel_rfl) (tA350 hK) runA352 ?_
  exact triOps_end (i := 2) (L1 := stA353) (hihA hK) runA354 (by kernel_rfl)
theorem tA413 {W : World} (hK : KA W) : TF W Tryz.f128 pA117 stA409.act stA409.st (vvA222) stA411.st := triFin_code (hihA hK) runA412
theorem tA414 {W : World} (hK : KA W) : TF W Tryz.f128 cdA128 ({ n := 62, t := PT.ofList 0 (PT.nil 8) vsA408, defers := [] }) stA406.st (vvA222) stA411.st := triFin_hds (k := 3) (L1 := stA409) (hihA hK) (by kernel_rfl) runA410 (tA413 hK)
theorem tA415 {W : World} (hK : KA W) : TC W 128 vsA408 stA406.st (vvA222) stA411.st := callT_fin Tryz.func128 bdA128 (by kernel_rfl) (n := 62) (by kernel_rfl) (by kernel_rfl) (tA414 hK)
theorem tA420 {W : World} (hK : KA W) : TX W pA106 stA404.act stA404.st .normal stA418 := by
  refine tx_region (by kernel_rfl) ?_
  refine triOps_cut (i := 0) (j := 3) (L1 := stA406) (hihA hK) (by kernel_rfl) runA407 (by kernel_rfl) ?_
  refine triOps_call (i := 3) (f := 128) (fi := #[]) (ca := #[]) (v := vvA222) (L0 := stA406) (Lc := stA411) (L1 := stA416) rfl rfl (by kernel_rfl) (by kernel_rfl) (by kernel_rfl) (by kernel_rfl) (tA415 hK) runA417 ?_
  exact triOps_end (i := 4) (L1 := stA418) (hihA hK) runA419 (by kernel_rfl)
theorem tA423 {W : World} (hK : KA W) : TX W pA124 stA418.act stA418.st .normal stA421 := triX_code (hihA hK) runA422
theorem tA424 {W : World} (hK : KA W) : TX W pA105 stA404.act stA404.st .normal stA421 := tx_seq (by kernel_rfl) (tA420 hK) (tA423 hK)
theorem tA425 {W : World} (hK : KA W) : TX W pA104 stA402.act stA402.st .normal stA421 := triX_hds (k := 1) (L1 := stA404) (hihA hK) (by kernel_rfl) runA405 (tA424 hK)
theorem tA426 {W : World} (hK : KA W) : TX W pA103 stA402.act stA402.st .normal stA421 := tx_through (by kernel_rfl) (by kernel_rfl) (tA425 hK)
theorem tA429 {W : World} (hK : KA W) : TX W pA125 stA421.act stA421.st .normal stA427 := triX_code (hihA hK) runA428
theorem tA430 {W : World} (hK : KA W) : TX W pA102 stA402.act stA402.st .normal stA427 := tx_seq (by kernel_rfl) (tA426 hK) (tA429 hK)
theorem tA431 {W : World} (hK : KA W) : TX W pA101 stA400.act stA400.st .normal stA427 := triX_hds (k := 2) (L1 := stA402) (hihA hK) (by kernel_rfl) runA403 (tA430 hK)
theorem tA434 {W : World} (hK : KA W) : TX W pA101 stA427.act stA427.st (.exit 0) stA432 := triX_code (hihA hK) runA433
theorem tA435 {W : World} (hK : KA W) : TX W pA100 stA400.act stA400.st (.exit 0) stA432 := tx_loop (m := 1) (by kernel_rfl) rfl (.next (tA431 hK) (.last (tA434 hK)))
theorem tA436 {W : World} (hK : KA W) : TX W pA99 stA400.act stA400.st .normal stA432 := tx_block (by kernel_rfl) (tA435 hK)
theorem tA437 {W : World} (hK : KA W) : TX W pA98 stA398.act stA398.st .normal stA432 := triX_hds (k := 1) (L1 := stA400) (hihA hK) (by kernel_rfl) runA401 (tA436 hK)
theorem tA440 {W : World} (hK : KA W) : TF W Tryz.f106 pA126 stA432.act stA432.st (vvA228) stA438.st := triFin_code (hihA hK) runA439
theorem tA441 {W : World} (hK : KA W) : TF W Tryz.f106 pA97 stA398.act stA398.st (vvA228) stA438.st := tf_seq (by kernel_rfl) (tA437 hK) (tA440 hK)
theorem tA442 {W : World} (hK : KA W) : TF W Tryz.f106 cdA106 ({ n := 89, t := PT.ofList 0 (PT.nil 8) vsA397, defers := [] }) stA395.st (vvA228) stA438.st := triFin_hds (k := 7) (L1 := stA398) (hihA hK) (by kernel_rfl) runA399 (tA441 hK)
theorem tA443 {W : World} (hK : KA W) : TC W 106 vsA397 stA395.st (vvA228) stA438.st := callT_fin Tryz.func106 bdA106 (by kernel_rfl) (n := 89) (by kernel_rfl) (by kernel_rfl) (tA442 hK)
theorem tA448 {W : World} (hK : KA W) : TX W pA88 stA393.act stA393.st .normal stA446 := by
  refine tx_region (by kernel_rfl) ?_
  refine triOps_cut (i := 0) (j := 3) (L1 := stA395) (hihA hK) (by kernel_rfl) runA396 (by kernel_rfl) ?_
  refine triOps_call (i := 3) (f := 106) (fi := #[]) (ca := #[]) (v := vvA228) (L0 := stA395) (Lc := stA438) (L1 := stA444) rfl rfl (by kernel_rfl) (by kernel_rfl) (by kernel_rfl) (by kernel_rfl) (tA443 hK) runA445 ?_
  exact triOps_end (i := 4) (L1 := stA446) (hihA hK) runA447 (by kernel_rfl)
theorem tA451 {W : World} (hK : KA W) : TX W pA133 stA446.act stA446.st .normal stA449 := triX_code (hihA hK) runA450
theorem tA452 {W : World} (hK : KA W) : TX W pA87 stA393.act stA393.st .normal stA449 := tx_seq (by kernel_rfl) (tA448 hK) (tA451 hK)
theorem tA453 {W : World} (hK : KA W) : TX W pA86 stA391.act stA391.st .normal stA449 := triX_hds (k := 1) (L1 := stA393) (hihA hK) (by kernel_rfl) runA394 (tA452 hK)
theorem tA454 {W : World} (hK : KA W) : TX W pA85 stA391.act stA391.st .normal stA449 := tx_through (by kernel_rfl) (by kernel_rfl) (tA453 hK)
theorem tA457 {W : World} (hK : KA W) : TX W pA135 stA449.act stA449.st .normal stA455 := triX_code (hihA hK) runA456
theorem tA458 {W : World} (hK : KA W) : TX W pA84 stA391.act stA391.st .normal stA455 := tx_seq (by kernel_rfl) (tA454 hK) (tA457 hK)
theorem tA459 {W : World} (hK : KA W) : TX W pA83 stA389.act stA389.st .normal stA455 := triX_hds (k := 2) (L1 := stA391) (hihA hK) (by kernel_rfl) runA392 (tA458 hK)
theorem tA462 {W : World} (hK : KA W) : TX W pA83 stA455.act stA455.st (.exit 0) stA460 := triX_code (hihA hK) runA461
theorem tA463 {W : World} (hK : KA W) : TX W pA82 stA389.act stA389.st (.exit 0) stA460 := tx_loop (m := 1) (by kernel_rfl) rfl (.next (tA459 hK) (.last (tA462 hK)))
theorem tA464 {W : World} (hK : KA W) : TX W pA81 stA389.act stA389.st .normal stA460 := tx_block (by kernel_rfl) (tA463 hK)
theorem tA465 {W : World} (hK : KA W) : TX W pA80 stA387.act stA387.st .normal stA460 := triX_hds (k := 1) (L1 := stA389) (hihA hK) (by kernel_rfl) runA390 (tA464 hK)
theorem tA468 {W : World} (hK : KA W) : TF W Tryz.f85 pA136 stA460.act stA460.st (vvA230) stA466.st := triFin_code (hihA hK) runA467
theorem tA469 {W : World} (hK : KA W) : TF W Tryz.f85 pA79 stA387.act stA387.st (vvA230) stA466.st := tf_seq (by kernel_rfl) (tA465 hK) (tA468 hK)
theorem tA470 {W : World} (hK : KA W) : TF W Tryz.f85 cdA85 ({ n := 46, t := PT.ofList 0 (PT.nil 8) vsA386, defers := [] }) stA384.st (vvA230) stA466.st := triFin_hds (k := 4) (L1 := stA387) (hihA hK) (by kernel_rfl) runA388 (tA469 hK)
theorem tA471 {W : World} (hK : KA W) : TC W 85 vsA386 stA384.st (vvA230) stA466.st := callT_fin Tryz.func85 bdA85 (by kernel_rfl) (n := 46) (by kernel_rfl) (by kernel_rfl) (tA470 hK)
theorem tA476 {W : World} (hK : KA W) : TX W pA78 stA382.act stA382.st .normal stA474 := by
  refine tx_region (by kernel_rfl) ?_
  refine triOps_cut (i := 0) (j := 2) (L1 := stA384) (hihA hK) (by kernel_rfl) runA385 (by kernel_rfl) ?_
  refine triOps_call (i := 2) (f := 85) (fi := #[]) (ca := #[]) (v := vvA230) (L0 := stA384) (Lc := stA466) (L1 := stA472) rfl rfl (by kernel_rfl) (by kernel_rfl) (by kernel_rfl) (by kernel_rfl) (tA471 hK) runA473 ?_
  exact triOps_end (i := 3) (L1 := stA474) (hihA hK) runA475 (by kernel_rfl)
theorem tA479 {W : World} (hK : KA W) : TF W Tryz.f118 pA138 stA474.act stA474.st (.tuple #[.int .i64 2, .int .i64 0]) stA477.st := triFin_code (hihA hK) runA478
theorem tA480 {W : World} (hK : KA W) : TF W Tryz.f118 pA77 stA382.act stA382.st (.tuple #[.int .i64 2, .int .i64 0]) stA477.st := tf_seq (by kernel_rfl) (tA476 hK) (tA479 hK)
theorem tA481 {W : World} (hK : KA W) : TF W Tryz.f118 cdA118 ({ n := 17, t := PT.ofList 0 (PT.nil 8) vsA381, defers := [] }) stA379.st (.tuple #[.int .i64 2, .int .i64 0]) stA477.st := triFin_hds (k := 1) (L1 := stA382) (hihA hK) (by kernel_rfl) runA383 (tA480 hK)
theorem tA482 {W : World} (hK : KA W) : TC W 118 vsA381 stA379.st (.tuple #[.int .i64 2, .int .i64 0]) stA477.st := callT_fin Tryz.func118 bdA118 (by kernel_rfl) (n := 17) (by kernel_rfl) (by kernel_rfl) (tA481 hK)
theorem tA487 {W : World} (hK : KA W) : TX W pA74 stA377.act stA377.st .normal stA485 := by
  refine tx_region (by kernel_rfl) ?_
  refine triOps_cut (i := 0) (j := 3) (L1 := stA379) (hihA hK) (by kernel_rfl) runA380 (by kernel_rfl) ?_
  refine triOps_call (i := 3) (f := 118) (fi := #[]) (ca := #[]) (v := .tuple #[.int .i64 2, .int .i64 0]) (L0 := stA379) (Lc := stA477) (L1 := stA483) rfl rfl (by kernel_rfl) (by kernel_rfl) (by kernel_rfl) (by kernel_rfl) (tA482 hK) runA484 ?_
  exact triOps_end (i := 4) (L1 := stA485) (hihA hK) runA486 (by kernel_rfl)
theorem tA490 {W : World} (hK : KA W) : TX W pA139 stA485.act stA485.st .normal stA488 := triX_code (hihA hK) runA489
theorem tA491 {W : World} (hK : KA W) : TX W pA73 stA377.act stA377.st .normal stA488 := tx_seq (by kernel_rfl) (tA487 hK) (tA490 hK)
theorem tA492 {W : World} (hK : KA W) : TX W pA67 stA375.act stA375.st .normal stA488 := triX_hds (k := 2) (L1 := stA377) (hihA hK) (by kernel_rfl) runA378 (tA491 hK)
theorem tA493 {W : World} (hK : KA W) : TX W pA66 stA375.act stA375.st .normal stA488 := tx_through (by kernel_rfl) (by kernel_rfl) (tA492 hK)
theorem tA496 {W : World} (hK : KA W) : TX W pA141 stA488.act stA488.st .normal stA494 := triX_code (hihA hK) runA495
theorem tA497 {W : World} (hK : KA W) : TX W pA65 stA375.act stA375.st .normal stA494 := tx_seq (by kernel_rfl) (tA493 hK) (tA496 hK)
theorem tA498 {W : World} (hK : KA W) : TX W pA64 stA373.act stA373.st .normal stA494 := triX_hds (k := 2) (L1 := stA375) (hihA hK) (by kernel_rfl) runA376 (tA497 hK)
theorem tA501 {W : World} (hK : KA W) : TX W pA64 stA494.act stA494.st (.exit 0) stA499 := triX_code (hihA hK) runA500
theorem tA502 {W : World} (hK : KA W) : TX W pA63 stA373.act stA373.st (.exit 0) stA499 := tx_loop (m := 1) (by kernel_rfl) rfl (.next (tA498 hK) (.last (tA501 hK)))
theorem tA503 {W : World} (hK : KA W) : TX W pA62 stA373.act stA373.st .normal stA499 := tx_block (by kernel_rfl) (tA502 hK)
theorem tA504 {W : World} (hK : KA W) : TX W pA61 stA371.act stA371.st .normal stA499 := triX_hds (k := 1) (L1 := stA373) (hihA hK) (by kernel_rfl) runA374 (tA503 hK)
theorem tA507 {W : World} (hK : KA W) : TF W Tryz.f100 pA142 stA499.act stA499.st (vvA231) stA505.st := triFin_code (hihA hK) runA506
theorem tA508 {W : World} (hK : KA W) : TF W Tryz.f100 pA60 stA371.act stA371.st (vvA231) stA505.st := tf_seq (by kernel_rfl) (tA504 hK) (tA507 hK)
theorem tA509 {W : World} (hK : KA W) : TF W Tryz.f100 cdA100 ({ n := 52, t := PT.ofList 0 (PT.nil 8) vsA370, defers := [] }) stA368.st (vvA231) stA505.st := triFin_hds (k := 4) (L1 := stA371) (hihA hK) (by kernel_rfl) runA372 (tA508 hK)
theorem tA510 {W : World} (hK : KA W) : TC W 100 vsA370 stA368.st (vvA231) stA505.st := callT_fin Tryz.func100 bdA100 (by kernel_rfl) (n := 52) (by kernel_rfl) (by kernel_rfl) (tA509 hK)
theorem tA515 {W : World} (hK : KA W) : TX W pA57 stA366.act stA366.st .normal stA513 := by
  refine tx_region (by kernel_rfl) ?_
  refine triOps_cut (i := 0) (j := 1) (L1 := stA368) (hihA hK) (by kernel_rfl) runA369 (by kernel_rfl) ?_
  refine triOps_call (i := 1) (f := 100) (fi := #[]) (ca := #[]) (v := vvA231) (L0 := stA368) (Lc := stA505) (L1 := stA511) rfl rfl (by kernel_rfl) (by kernel_rfl) (by kernel_rfl) (by kernel_rfl) (tA510 hK) runA512 ?_
  exact triOps_end (i := 2) (L1 := stA513) (hihA hK) runA514 (by kernel_rfl)
theorem tA518 {W : World} (hK : KA W) : TF W Tryz.f82 pA144 stA513.act stA513.st (.tuple #[.int .i64 2, .int .i64 0]) stA516.st := triFin_code (hihA hK) runA517
theorem tA519 {W : World} (hK : KA W) : TF W Tryz.f82 pA56 stA366.act stA366.st (.tuple #[.int .i64 2, .int .i64 0]) stA516.st := tf_seq (by kernel_rfl) (tA515 hK) (tA518 hK)
theorem tA520 {W : World} (hK : KA W) : TF W Tryz.f82 cdA82 ({ n := 30, t := PT.ofList 0 (PT.nil 8) vsA365, defers := [] }) stA363.st (.tuple #[.int .i64 2, .int .i64 0]) stA516.st := triFin_hds (k := 1) (L1 := stA366) (hihA hK) (by kernel_rfl) runA367 (tA519 hK)
theorem tA521 {W : World} (hK : KA W) : TC W 82 vsA365 stA363.st (.tuple #[.int .i64 2, .int .i64 0]) stA516.st := callT_fin Tryz.func82 bdA82 (by kernel_rfl) (n := 30) (by kernel_rfl) (by kernel_rfl) (tA520 hK)
theorem tA526 {W : World} (hK : KA W) : TX W pA55 stA361.act stA361.st .normal stA524 := by
  refine tx_region (by kernel_rfl) ?_
  refine triOps_cut (i := 0) (j := 1) (L1 := stA363) (hihA hK) (by kernel_rfl) runA364 (by kernel_rfl) ?_
  refine triOps_call (i := 1) (f := 82) (fi := #[]) (ca := #[]) (v := .tuple #[.int .i64 2, .int .i64 0]) (L0 := stA363) (Lc := stA516) (L1 := stA522) rfl rfl (by kernel_rfl) (by kernel_rfl) (by kernel_rfl) (by kernel_rfl) (tA521 hK) runA523 ?_
  exact triOps_end (i := 2) (L1 := stA524) (hihA hK) runA525 (by kernel_rfl)
theorem tA529 {W : World} (hK : KA W) : TX W pA145 stA524.act stA524.st .normal stA527 := triX_code (hihA hK) runA528
theorem tA530 {W : World} (hK : KA W) : TX W pA54 stA361.act stA361.st .normal stA527 := tx_seq (by kernel_rfl) (tA526 hK) (tA529 hK)
theorem tA568 {W : World} (hK : KA W) : TF W Tryz.f128 pA117 stA564.act stA564.st (vvA252) stA566.st := triFin_code (hihA hK) runA567
theorem tA569 {W : World} (hK : KA W) : TF W Tryz.f128 cdA128 ({ n := 62, t := PT.ofList 0 (PT.nil 8) vsA563, defers := [] }) stA561.st (vvA252) stA566.st := triFin_hds (k := 3) (L1 := stA564) (hihA hK) (by kernel_rfl) runA565 (tA568 hK)
theorem tA570 {W : World} (hK : KA W) : TC W 128 vsA563 stA561.st (vvA252) stA566.st := callT_fin Tryz.func128 bdA128 (by kernel_rfl) (n := 62) (by kernel_rfl) (by kernel_rfl) (tA569 hK)
theorem tA575 {W : World} (hK : KA W) : TX W pA106 stA559.act stA559.st .normal stA573 := by
  refine tx_region (by kernel_rfl) ?_
  refine triOps_cut (i := 0) (j := 3) (L1 := stA561) (hihA hK) (by kernel_rfl) runA562 (by kernel_rfl) ?_
  refine triOps_call (i := 3) (f := 128) (fi := #[]) (ca := #[]) (v := vvA252) (L0 := stA561) (Lc := stA566) (L1 := stA571) rfl rfl (by kernel_rfl) (by kernel_rfl) (by kernel_rfl) (by kernel_rfl) (tA570 hK) runA572 ?_
  exact triOps_end (i := 4) (L1 := stA573) (hihA hK) runA574 (by kernel_rfl)
theorem tA578 {W : World} (hK : KA W) : TX W pA124 stA573.act stA573.st .normal stA576 := triX_code (hihA hK) runA577
theorem tA579 {W : World} (hK : KA W) : TX W pA105 stA559.act stA559.st .normal stA576 := tx_seq (by kernel_rfl) (tA575 hK) (tA578 hK)
theorem tA580 {W : World} (hK : KA W) : TX W pA104 stA557.act stA557.st .normal stA576 := triX_hds (k := 1) (L1 := stA559) (hihA hK) (by kernel_rfl) runA560 (tA579 hK)
theorem tA581 {W : World} (hK : KA W) : TX W pA103 stA557.act stA557.st .normal stA576 := tx_through (by kernel_rfl) (by kernel_rfl) (tA580 hK)
theorem tA584 {W : World} (hK : KA W) : TX W pA125 stA576.act stA576.st .normal stA582 := triX_code (hihA hK) runA583
theorem tA585 {W : World} (hK : KA W) : TX W pA102 stA557.act stA557.st .normal stA582 := tx_seq (by kernel_rfl) (tA581 hK) (tA584 hK)
theorem tA586 {W : World} (hK : KA W) : TX W pA101 stA555.act stA555.st .normal stA582 := triX_hds (k := 2) (L1 := stA557) (hihA hK) (by kernel_rfl) runA558 (tA585 hK)
theorem tA589 {W : World} (hK : KA W) : TX W pA101 stA582.act stA582.st (.exit 0) stA587 := triX_code (hihA hK) runA588
theorem tA590 {W : World} (hK : KA W) : TX W pA100 stA555.act stA555.st (.exit 0) stA587 := tx_loop (m := 1) (by kernel_rfl) rfl (.next (tA586 hK) (.last (tA589 hK)))
theorem tA591 {W : World} (hK : KA W) : TX W pA99 stA555.act stA555.st .normal stA587 := tx_block (by kernel_rfl) (tA590 hK)
theorem tA592 {W : World} (hK : KA W) : TX W pA98 stA553.act stA553.st .normal stA587 := triX_hds (k := 1) (L1 := stA555) (hihA hK) (by kernel_rfl) runA556 (tA591 hK)
theorem tA595 {W : World} (hK : KA W) : TF W Tryz.f106 pA126 stA587.act stA587.st (vvA258) stA593.st := triFin_code (hihA hK) runA594
theorem tA596 {W : World} (hK : KA W) : TF W Tryz.f106 pA97 stA553.act stA553.st (vvA258) stA593.st := tf_seq (by kernel_rfl) (tA592 hK) (tA595 hK)
theorem tA597 {W : World} (hK : KA W) : TF W Tryz.f106 cdA106 ({ n := 89, t := PT.ofList 0 (PT.nil 8) vsA552, defers := [] }) stA550.st (vvA258) stA593.st := triFin_hds (k := 7) (L1 := stA553) (hihA hK) (by kernel_rfl) runA554 (tA596 hK)
theorem tA598 {W : World} (hK : KA W) : TC W 106 vsA552 stA550.st (vvA258) stA593.st := callT_fin Tryz.func106 bdA106 (by kernel_rfl) (n := 89) (by kernel_rfl) (by kernel_rfl) (tA597 hK)
theorem tA603 {W : World} (hK : KA W) : TX W pA88 stA548.act stA548.st .normal stA601 := by
  refine tx_region (by kernel_rfl) ?_
  refine triOps_cut (i := 0) (j := 3) (L1 := stA550) (hihA hK) (by kernel_rfl) runA551 (by kernel_rfl) ?_
  refine triOps_call (i := 3) (f := 106) (fi := #[]) (ca := #[]) (v := vvA258) (L0 := stA550) (Lc := stA593) (L1 := stA599) rfl rfl (by kernel_rfl) (by kernel_rfl) (by kernel_rfl) (by kernel_rfl) (tA598 hK) runA600 ?_
  exact triOps_end (i := 4) (L1 := stA601) (hihA hK) runA602 (by kernel_rfl)
theorem tA606 {W : World} (hK : KA W) : TX W pA133 stA601.act stA601.st .normal stA604 := triX_code (hihA hK) runA605
theorem tA607 {W : World} (hK : KA W) : TX W pA87 stA548.act stA548.st .normal stA604 := tx_seq (by kernel_rfl) (tA603 hK) (tA606 hK)
theorem tA608 {W : World} (hK : KA W) : TX W pA86 stA546.act stA546.st .normal stA604 := triX_hds (k := 1) (L1 := stA548) (hihA hK) (by kernel_rfl) runA549 (tA607 hK)
theorem tA609 {W : World} (hK : KA W) : TX W pA85 stA546.act stA546.st .normal stA604 := tx_through (by kernel_rfl) (by kernel_rfl) (tA608 hK)
theorem tA612 {W : World} (hK : KA W) : TX W pA135 stA604.act stA604.st .normal stA610 := triX_code (hihA hK) runA611
theorem tA613 {W : World} (hK : KA W) : TX W pA84 stA546.act stA546.st .normal stA610 := tx_seq (by kernel_rfl) (tA609 hK) (tA612 hK)
theorem tA614 {W : World} (hK : KA W) : TX W pA83 stA544.act stA544.st .normal stA610 := triX_hds (k := 2) (L1 := stA546) (hihA hK) (by kernel_rfl) runA547 (tA613 hK)
theorem tA617 {W : World} (hK : KA W) : TX W pA83 stA610.act stA610.st (.exit 0) stA615 := triX_code (hihA hK) runA616
theorem tA618 {W : World} (hK : KA W) : TX W pA82 stA544.act stA544.st (.exit 0) stA615 := tx_loop (m := 1) (by kernel_rfl) rfl (.next (tA614 hK) (.last (tA617 hK)))
theorem tA619 {W : World} (hK : KA W) : TX W pA81 stA544.act stA544.st .normal stA615 := tx_block (by kernel_rfl) (tA618 hK)
theorem tA620 {W : World} (hK : KA W) : TX W pA80 stA542.act stA542.st .normal stA615 := triX_hds (k := 1) (L1 := stA544) (hihA hK) (by kernel_rfl) runA545 (tA619 hK)
theorem tA623 {W : World} (hK : KA W) : TF W Tryz.f85 pA136 stA615.act stA615.st (vvA260) stA621.st := triFin_code (hihA hK) runA622
theorem tA624 {W : World} (hK : KA W) : TF W Tryz.f85 pA79 stA542.act stA542.st (vvA260) stA621.st := tf_seq (by kernel_rfl) (tA620 hK) (tA623 hK)
theorem tA625 {W : World} (hK : KA W) : TF W Tryz.f85 cdA85 ({ n := 46, t := PT.ofList 0 (PT.nil 8) vsA541, defers := [] }) stA539.st (vvA260) stA621.st := triFin_hds (k := 4) (L1 := stA542) (hihA hK) (by kernel_rfl) runA543 (tA624 hK)
theorem tA626 {W : World} (hK : KA W) : TC W 85 vsA541 stA539.st (vvA260) stA621.st := callT_fin Tryz.func85 bdA85 (by kernel_rfl) (n := 46) (by kernel_rfl) (by kernel_rfl) (tA625 hK)
theorem tA631 {W : World} (hK : KA W) : TX W pA160 stA537.act stA537.st .normal stA629 := by
  refine tx_region (by kernel_rfl) ?_
  refine triOps_cut (i := 0) (j := 5) (L1 := stA539) (hihA hK) (by kernel_rfl) runA540 (by kernel_rfl) ?_
  refine triOps_call (i := 5) (f := 85) (fi := #[]) (ca := #[]) (v := vvA260) (L0 := stA539) (Lc := stA621) (L1 := stA627) rfl rfl (by kernel_rfl) (by kernel_rfl) (by kernel_rfl) (by kernel_rfl) (tA626 hK) runA628 ?_
  exact triOps_end (i := 6) (L1 := stA629) (hihA hK) runA630 (by kernel_rfl)
theorem tA632 {W : World} (hK : KA W) : TX W pA156 stA535.act stA535.st .normal stA629 := triX_hds (k := 2) (L1 := stA537) (hihA hK) (by kernel_rfl) runA538 (tA631 hK)
theorem tA633 {W : World} (hK : KA W) : TX W pA155 stA535.act stA535.st .normal stA629 := tx_through (by kernel_rfl) (by kernel_rfl) (tA632 hK)
theorem tA636 {W : World} (hK : KA W) : TX W pA187 stA629.act stA629.st .normal stA634 := triX_code (hihA hK) runA635
theorem tA637 {W : World} (hK : KA W) : TX W pA154 stA535.act stA535.st .normal stA634 := tx_seq (by kernel_rfl) (tA633 hK) (tA636 hK)
theorem tA638 {W : World} (hK : KA W) : TX W pA153 stA533.act stA533.st .normal stA634 := triX_hds (k := 2) (L1 := stA535) (hihA hK) (by kernel_rfl) runA536 (tA637 hK)
theorem tA641 {W : World} (hK : KA W) : TX W pA153 stA634.act stA634.st (.exit 0) stA639 := triX_code (hihA hK) runA640
theorem tA642 {W : World} (hK : KA W) : TX W pA152 stA533.act stA533.st (.exit 0) stA639 := tx_loop (m := 1) (by kernel_rfl) rfl (.next (tA638 hK) (.last (tA641 hK)))
theorem tA643 {W : World} (hK : KA W) : TX W pA151 stA533.act stA533.st .normal stA639 := tx_block (by kernel_rfl) (tA642 hK)
theorem tA644 {W : World} (hK : KA W) : TX W pA150 stA531.act stA531.st .normal stA639 := triX_hds (k := 1) (L1 := stA533) (hihA hK) (by kernel_rfl) runA534 (tA643 hK)
theorem tA647 {W : World} (hK : KA W) : TF W Tryz.f72 pA188 stA639.act stA639.st (vvA263) stA645.st := triFin_code (hihA hK) runA646
theorem tA648 {W : World} (hK : KA W) : TF W Tryz.f72 pA149 stA531.act stA531.st (vvA263) stA645.st := tf_seq (by kernel_rfl) (tA644 hK) (tA647 hK)
theorem tA649 {W : World} (hK : KA W) : TF W Tryz.f72 pA146 stA527.act stA527.st (vvA263) stA645.st := triFin_hds (k := 2) (L1 := stA531) (hihA hK) (by kernel_rfl) runA532 (tA648 hK)
theorem tA650 {W : World} (hK : KA W) : TF W Tryz.f72 pA53 stA361.act stA361.st (vvA263) stA645.st := tf_seq (by kernel_rfl) (tA530 hK) (tA649 hK)
theorem tA651 {W : World} (hK : KA W) : TF W Tryz.f72 cdA72 ({ n := 66, t := PT.ofList 0 (PT.nil 8) vsA360, defers := [] }) stA358.st (vvA263) stA645.st := triFin_hds (k := 1) (L1 := stA361) (hihA hK) (by kernel_rfl) runA362 (tA650 hK)
theorem tA652 {W : World} (hK : KA W) : TC W 72 vsA360 stA358.st (vvA263) stA645.st := callT_fin Tryz.func72 bdA72 (by kernel_rfl) (n := 66) (by kernel_rfl) (by kernel_rfl) (tA651 hK)
theorem tA657 {W : World} (hK : KA W) : TX W pA201 stA356.act stA356.st .normal stA655 := by
  refine tx_region (by kernel_rfl) ?_
  refine triOps_cut (i := 0) (j := 1) (L1 := stA358) (hihA hK) (by kernel_rfl) runA359 (by kernel_rfl) ?_
  refine triOps_call (i := 1) (f := 72) (fi := #[]) (ca := #[]) (v := vvA263) (L0 := stA358) (Lc := stA645) (L1 := stA653) rfl rfl (by kernel_rfl) (by kernel_rfl) (by kernel_rfl) (by kernel_rfl) (tA652 hK) runA654 ?_
  exact triOps_end (i := 2) (L1 := stA655) (hihA hK) runA656 (by kernel_rfl)
theorem tA666 {W : World} (hK : KA W) : TX W pA267 stA662.act stA662.st (.exit 2) stA664 := triX_code (hihA hK) runA665
theorem tA667 {W : World} (hK : KA W) : TX W pA266 stA658.act stA658.st (.exit 2) stA664 := tx_loop (m := 2) (by kernel_rfl) rfl (rounds_run (hihA hK) runA661 (rounds_run (hihA hK) runA663 (.last (tA666 hK))))
theorem tA668 {W : World} (hK : KA W) : TX W pA265 stA658.act stA658.st .normal stA664 := tx_block (by kernel_rfl) (tA667 hK)
theorem tA669 {W : World} (hK : KA W) : TX W pA264 stA655.act stA655.st .normal stA664 := triX_hds (k := 2) (L1 := stA658) (hihA hK) (by kernel_rfl) runA659 (tA668 hK)
theorem tA670 {W : World} (hK : KA W) : TX W pA200 stA356.act stA356.st .normal stA664 := tx_seq (by kernel_rfl) (tA657 hK) (tA669 hK)
theorem tA671 {W : World} (hK : KA W) : TX W pA199 stA353.act stA353.st .normal stA664 := triX_hds (k := 2) (L1 := stA356) (hihA hK) (by kernel_rfl) runA357 (tA670 hK)
theorem tA672 {W : World} (hK : KA W) : TX W pA47 stA22.act stA22.st .normal stA664 := tx_seq (by kernel_rfl) (tA355 hK) (tA671 hK)
theorem tA673 {W : World} (hK : KA W) : TX W pA44 stA20.act stA20.st .normal stA664 := triX_hds (k := 1) (L1 := stA22) (hihA hK) (by kernel_rfl) runA23 (tA672 hK)
theorem tA674 {W : World} (hK : KA W) : TX W pA43 stA20.act stA20.st .normal stA664 := tx_through (by kernel_rfl) (by kernel_rfl) (tA673 hK)
theorem tA677 {W : World} (hK : KA W) : TX W pA280 stA664.act stA664.st .normal stA675 := triX_code (hihA hK) runA676
theorem tA678 {W : World} (hK : KA W) : TX W pA42 stA20.act stA20.st .normal stA675 := tx_seq (by kernel_rfl) (tA674 hK) (tA677 hK)
theorem tA679 {W : World} (hK : KA W) : TX W pA41 stA18.act stA18.st .normal stA675 := triX_hds (k := 2) (L1 := stA20) (hihA hK) (by kernel_rfl) runA21 (tA678 hK)
theorem tA701 {W : World} (hK : KA W) : TF W Tryz.f72 pA285 stA697.act stA697.st (vvA289) stA699.st := triFin_code (hihA hK) runA700
theorem tA702 {W : World} (hK : KA W) : TF W Tryz.f72 cdA72 ({ n := 66, t := PT.ofList 0 (PT.nil 8) vsA696, defers := [] }) stA694.st (vvA289) stA699.st := triFin_hds (k := 4) (L1 := stA697) (hihA hK) (by kernel_rfl) runA698 (tA701 hK)
theorem tA703 {W : World} (hK : KA W) : TC W 72 vsA696 stA694.st (vvA289) stA699.st := callT_fin Tryz.func72 bdA72 (by kernel_rfl) (n := 66) (by kernel_rfl) (by kernel_rfl) (tA702 hK)
theorem tA708 {W : World} (hK : KA W) : TX W pA52 stA692.act stA692.st .normal stA706 := by
  refine tx_region (by kernel_rfl) ?_
  refine triOps_cut (i := 0) (j := 1) (L1 := stA694) (hihA hK) (by kernel_rfl) runA695 (by kernel_rfl) ?_
  refine triOps_call (i := 1) (f := 72) (fi := #[]) (ca := #[]) (v := vvA289) (L0 := stA694) (Lc := stA699) (L1 := stA704) rfl rfl (by kernel_rfl) (by kernel_rfl) (by kernel_rfl) (by kernel_rfl) (tA703 hK) runA705 ?_
  exact triOps_end (i := 2) (L1 := stA706) (hihA hK) runA707 (by kernel_rfl)
theorem tA711 {W : World} (hK : KA W) : TF W Tryz.f80 pA193 stA706.act stA706.st (vvA290) stA709.st := triFin_code (hihA hK) runA710
theorem tA712 {W : World} (hK : KA W) : TF W Tryz.f80 pA51 stA692.act stA692.st (vvA290) stA709.st := tf_seq (by kernel_rfl) (tA708 hK) (tA711 hK)
theorem tA713 {W : World} (hK : KA W) : TF W Tryz.f80 cdA80 ({ n := 42, t := PT.ofList 0 (PT.nil 8) vsA691, defers := [] }) stA689.st (vvA290) stA709.st := triFin_hds (k := 1) (L1 := stA692) (hihA hK) (by kernel_rfl) runA693 (tA712 hK)
theorem tA714 {W : World} (hK : KA W) : TC W 80 vsA691 stA689.st (vvA290) stA709.st := callT_fin Tryz.func80 bdA80 (by kernel_rfl) (n := 42) (by kernel_rfl) (by kernel_rfl) (tA713 hK)
theorem tA719 {W : World} (hK : KA W) : TX W pA50 stA687.act stA687.st .normal stA717 := by
  refine tx_region (by kernel_rfl) ?_
  refine triOps_cut (i := 0) (j := 1) (L1 := stA689) (hihA hK) (by kernel_rfl) runA690 (by kernel_rfl) ?_
  refine triOps_call (i := 1) (f := 80) (fi := #[]) (ca := #[]) (v := vvA290) (L0 := stA689) (Lc := stA709) (L1 := stA715) rfl rfl (by kernel_rfl) (by kernel_rfl) (by kernel_rfl) (by kernel_rfl) (tA714 hK) runA716 ?_
  exact triOps_end (i := 2) (L1 := stA717) (hihA hK) runA718 (by kernel_rfl)
theorem tA722 {W : World} (hK : KA W) : TF W Tryz.f71 pA196 stA717.act stA717.st (vvA291) stA720.st := triFin_code (hihA hK) runA721
theorem tA723 {W : World} (hK : KA W) : TF W Tryz.f71 pA49 stA687.act stA687.st (vvA291) stA720.st := tf_seq (by kernel_rfl) (tA719 hK) (tA722 hK)
theorem tA724 {W : World} (hK : KA W) : TF W Tryz.f71 cdA71 ({ n := 45, t := PT.ofList 0 (PT.nil 8) vsA686, defers := [] }) stA684.st (vvA291) stA720.st := triFin_hds (k := 1) (L1 := stA687) (hihA hK) (by kernel_rfl) runA688 (tA723 hK)
theorem tA725 {W : World} (hK : KA W) : TC W 71 vsA686 stA684.st (vvA291) stA720.st := callT_fin Tryz.func71 bdA71 (by kernel_rfl) (n := 45) (by kernel_rfl) (by kernel_rfl) (tA724 hK)
theorem tA730 {W : World} (hK : KA W) : TX W pA48 stA682.act stA682.st .normal stA728 := by
  refine tx_region (by kernel_rfl) ?_
  refine triOps_cut (i := 0) (j := 1) (L1 := stA684) (hihA hK) (by kernel_rfl) runA685 (by kernel_rfl) ?_
  refine triOps_call (i := 1) (f := 71) (fi := #[]) (ca := #[]) (v := vvA291) (L0 := stA684) (Lc := stA720) (L1 := stA726) rfl rfl (by kernel_rfl) (by kernel_rfl) (by kernel_rfl) (by kernel_rfl) (tA725 hK) runA727 ?_
  exact triOps_end (i := 2) (L1 := stA728) (hihA hK) runA729 (by kernel_rfl)
theorem tA740 {W : World} (hK : KA W) : TF W Tryz.f72 pA285 stA736.act stA736.st (vvA294) stA738.st := triFin_code (hihA hK) runA739
theorem tA741 {W : World} (hK : KA W) : TF W Tryz.f72 cdA72 ({ n := 66, t := PT.ofList 0 (PT.nil 8) vsA735, defers := [] }) stA733.st (vvA294) stA738.st := triFin_hds (k := 4) (L1 := stA736) (hihA hK) (by kernel_rfl) runA737 (tA740 hK)
theorem tA742 {W : World} (hK : KA W) : TC W 72 vsA735 stA733.st (vvA294) stA738.st := callT_fin Tryz.func72 bdA72 (by kernel_rfl) (n := 66) (by kernel_rfl) (by kernel_rfl) (tA741 hK)
theorem tA747 {W : World} (hK : KA W) : TX W pA201 stA731.act stA731.st .normal stA745 := by
  refine tx_region (by kernel_rfl) ?_
  refine triOps_cut (i := 0) (j := 1) (L1 := stA733) (hihA hK) (by kernel_rfl) runA734 (by kernel_rfl) ?_
  refine triOps_call (i := 1) (f := 72) (fi := #[]) (ca := #[]) (v := vvA294) (L0 := stA733) (Lc := stA738) (L1 := stA743) rfl rfl (by kernel_rfl) (by kernel_rfl) (by kernel_rfl) (by kernel_rfl) (tA742 hK) runA744 ?_
  exact triOps_end (i := 2) (L1 := stA745) (hihA hK) runA746 (by kernel_rfl)
theorem tA750 {W : World} (hK : KA W) : TX W pA264 stA745.act stA745.st .normal stA748 := triX_code (hihA hK) runA749
theorem tA751 {W : World} (hK : KA W) : TX W pA200 stA731.act stA731.st .normal stA748 := tx_seq (by kernel_rfl) (tA747 hK) (tA750 hK)
theorem tA752 {W : World} (hK : KA W) : TX W pA199 stA728.act stA728.st .normal stA748 := triX_hds (k := 2) (L1 := stA731) (hihA hK) (by kernel_rfl) runA732 (tA751 hK)
theorem tA753 {W : World} (hK : KA W) : TX W pA47 stA682.act stA682.st .normal stA748 := tx_seq (by kernel_rfl) (tA730 hK) (tA752 hK)
theorem tA754 {W : World} (hK : KA W) : TX W pA44 stA680.act stA680.st .normal stA748 := triX_hds (k := 1) (L1 := stA682) (hihA hK) (by kernel_rfl) runA683 (tA753 hK)
theorem tA755 {W : World} (hK : KA W) : TX W pA43 stA680.act stA680.st .normal stA748 := tx_through (by kernel_rfl) (by kernel_rfl) (tA754 hK)
theorem tA758 {W : World} (hK : KA W) : TX W pA280 stA748.act stA748.st .normal stA756 := triX_code (hihA hK) runA757
theorem tA759 {W : World} (hK : KA W) : TX W pA42 stA680.act stA680.st .normal stA756 := tx_seq (by kernel_rfl) (tA755 hK) (tA758 hK)
theorem tA760 {W : World} (hK : KA W) : TX W pA41 stA675.act stA675.st .normal stA756 := triX_hds (k := 2) (L1 := stA680) (hihA hK) (by kernel_rfl) runA681 (tA759 hK)
theorem tA763 {W : World} (hK : KA W) : TX W pA41 stA756.act stA756.st (.exit 0) stA761 := triX_code (hihA hK) runA762
theorem tA764 {W : World} (hK : KA W) : TX W pA40 stA18.act stA18.st (.exit 0) stA761 := tx_loop (m := 2) (by kernel_rfl) rfl (.next (tA679 hK) (.next (tA760 hK) (.last (tA763 hK))))
theorem tA765 {W : World} (hK : KA W) : TX W pA39 stA18.act stA18.st .normal stA761 := tx_block (by kernel_rfl) (tA764 hK)
theorem tA766 {W : World} (hK : KA W) : TX W pA38 stA16.act stA16.st .normal stA761 := triX_hds (k := 1) (L1 := stA18) (hihA hK) (by kernel_rfl) runA19 (tA765 hK)
theorem tA769 {W : World} (hK : KA W) : TF W Tryz.f52 pA301 stA761.act stA761.st (vvA302) stA767.st := triFin_code (hihA hK) runA768
theorem tA770 {W : World} (hK : KA W) : TF W Tryz.f52 pA37 stA16.act stA16.st (vvA302) stA767.st := tf_seq (by kernel_rfl) (tA766 hK) (tA769 hK)
theorem tA771 {W : World} (hK : KA W) : TF W Tryz.f52 cdA52 ({ n := 79, t := PT.ofList 0 (PT.nil 8) vsA15, defers := [] }) stA13.st (vvA302) stA767.st := triFin_hds (k := 4) (L1 := stA16) (hihA hK) (by kernel_rfl) runA17 (tA770 hK)
theorem tA772 {W : World} (hK : KA W) : TC W 52 vsA15 stA13.st (vvA302) stA767.st := callT_fin Tryz.func52 bdA52 (by kernel_rfl) (n := 79) (by kernel_rfl) (by kernel_rfl) (tA771 hK)
theorem tA777 {W : World} (hK : KA W) : TX W pA32 stA11.act stA11.st .normal stA775 := by
  refine tx_region (by kernel_rfl) ?_
  refine triOps_cut (i := 0) (j := 1) (L1 := stA13) (hihA hK) (by kernel_rfl) runA14 (by kernel_rfl) ?_
  refine triOps_call (i := 1) (f := 52) (fi := #[]) (ca := #[]) (v := vvA302) (L0 := stA13) (Lc := stA767) (L1 := stA773) rfl rfl (by kernel_rfl) (by kernel_rfl) (by kernel_rfl) (by kernel_rfl) (tA772 hK) runA774 ?_
  exact triOps_end (i := 2) (L1 := stA775) (hihA hK) runA776 (by kernel_rfl)
theorem tA780 {W : World} (hK : KA W) : TF W Tryz.f39 pA303 stA775.act stA775.st (vvA304) stA778.st := triFin_code (hihA hK) runA779
theorem tA781 {W : World} (hK : KA W) : TF W Tryz.f39 pA31 stA11.act stA11.st (vvA304) stA778.st := tf_seq (by kernel_rfl) (tA777 hK) (tA780 hK)
theorem tA782 {W : World} (hK : KA W) : TF W Tryz.f39 cdA39 ({ n := 41, t := PT.ofList 0 (PT.nil 8) vsA10, defers := [] }) stA8.st (vvA304) stA778.st := triFin_hds (k := 1) (L1 := stA11) (hihA hK) (by kernel_rfl) runA12 (tA781 hK)
theorem tA783 {W : World} (hK : KA W) : TC W 39 vsA10 stA8.st (vvA304) stA778.st := callT_fin Tryz.func39 bdA39 (by kernel_rfl) (n := 41) (by kernel_rfl) (by kernel_rfl) (tA782 hK)
theorem tA788 {W : World} (hK : KA W) : TX W pA30 stA6.act stA6.st .normal stA786 := by
  refine tx_region (by kernel_rfl) ?_
  refine triOps_cut (i := 0) (j := 1) (L1 := stA8) (hihA hK) (by kernel_rfl) runA9 (by kernel_rfl) ?_
  refine triOps_call (i := 1) (f := 39) (fi := #[]) (ca := #[]) (v := vvA304) (L0 := stA8) (Lc := stA778) (L1 := stA784) rfl rfl (by kernel_rfl) (by kernel_rfl) (by kernel_rfl) (by kernel_rfl) (tA783 hK) runA785 ?_
  exact triOps_end (i := 2) (L1 := stA786) (hihA hK) runA787 (by kernel_rfl)
theorem tA791 {W : World} (hK : KA W) : TF W Tryz.f22 pA305 stA786.act stA786.st (vt) stA789.st := triFin_code (hihA hK) runA790
theorem tA792 {W : World} (hK : KA W) : TF W Tryz.f22 pA29 stA6.act stA6.st (vt) stA789.st := tf_seq (by kernel_rfl) (tA788 hK) (tA791 hK)
theorem tA793 {W : World} (hK : KA W) : TF W Tryz.f22 cdA22 ({ n := 38, t := PT.ofList 0 (PT.nil 8) vsA5, defers := [] }) stA3.st (vt) stA789.st := triFin_hds (k := 1) (L1 := stA6) (hihA hK) (by kernel_rfl) runA7 (tA792 hK)
theorem tA794 {W : World} (hK : KA W) : TC W 22 vsA5 stA3.st (vt) stA789.st := callT_fin Tryz.func22 bdA22 (by kernel_rfl) (n := 38) (by kernel_rfl) (by kernel_rfl) (tA793 hK)
theorem tA799 {W : World} (hK : KA W) : TX W pA18 stA1.act stA1.st .normal stA797 := by
  refine tx_region (by kernel_rfl) ?_
  refine triOps_cut (i := 0) (j := 30) (L1 := stA3) (hihA hK) (by kernel_rfl) runA4 (by kernel_rfl) ?_
  refine triOps_call (i := 30) (f := 22) (fi := #[]) (ca := #[]) (v := vt) (L0 := stA3) (Lc := stA789) (L1 := stA795) rfl rfl (by kernel_rfl) (by kernel_rfl) (by kernel_rfl) (by kernel_rfl) (tA794 hK) runA796 ?_
  exact triOps_end (i := 31) (L1 := stA797) (hihA hK) runA798 (by kernel_rfl)
theorem tA802 {W : World} (hK : KA W) : TF W Tryz.f6 pA306 stA797.act stA797.st (vt) stA800.st := triFin_code (hihA hK) runA801
theorem tA803 {W : World} (hK : KA W) : TF W Tryz.f6 pA17 stA1.act stA1.st (vt) stA800.st := tf_seq (by kernel_rfl) (tA799 hK) (tA802 hK)
theorem tA804 {W : World} (hK : KA W) : TF W Tryz.f6 cdA6 ({ n := 52, t := PT.ofList 0 (PT.nil 8) vsA0, defers := [] }) start0 (vt) stA800.st := triFin_hds (k := 3) (L1 := stA1) (hihA hK) (by kernel_rfl) runA2 (tA803 hK)
theorem tA805 {W : World} (hK : KA W) : TC W 6 vsA0 start0 (vt) stA800.st := callT_fin Tryz.func6 bdA6 (by kernel_rfl) (n := 52) (by kernel_rfl) (by kernel_rfl) (tA804 hK)

noncomputable def of0 : List Value := (dc Tryz.prog 9 124 Rows.laid_tactus_sign_uses).getD []
noncomputable def of1 : List Value := (dc Tryz.prog 9 240 Rows.laid_tactus_sign_classes).getD []
noncomputable def of2 : List Value := (dc Tryz.prog 9 89 Rows.laid_tactus_item_half).getD []
theorem listed_is : listed = [(0, of0), (1, of1), (2, of2)] := by kernel_rfl
theorem listed_eq : ∀ g l, (g, l) ∈ listed → (g = 0 ∧ l = of0) ∨ (g = 1 ∧ l = of1) ∨ (g = 2 ∧ l = of2) := by
  rw [listed_is]
  intro g l h
  simpa only [List.mem_cons, Prod.mk.injEq, List.not_mem_nil, or_false] using h
def Laids (laid : List (String × DataW Unit)) : Prop := ("tactus/sign.uses", Rows.laid_tactus_sign_uses) ∈ laid ∧ ("tactus/sign.classes", Rows.laid_tactus_sign_classes) ∈ laid ∧ ("tactus/item.half", Rows.laid_tactus_item_half) ∈ laid

def Met (W : World) : Prop := ∀ g l, (g, l) ∈ listed → ∃ (arr : Array Value) (e : TypeId) (fz : Nat × Nat), W.heap[g]? = some (.cells arr e fz) ∧ arr.toList = l
theorem listed_met {laid : List (String × DataW Unit)} (hm : Laids laid) {W : World} (h : laidMet Tryz.prog laid W) : Met W := by
  obtain ⟨ps, hv, _⟩ := h
  obtain ⟨m0, m1, m2⟩ := hm
  intro g l hgl
  rcases listed_eq g l hgl with ⟨rfl, rfl⟩ | ⟨rfl, rfl⟩ | ⟨rfl, rfl⟩
  · exact laid_cells laid ps hv _ _ m0 0 124 9 _ (by kernel_rfl) (by kernel_rfl) (by kernel_rfl)
  · exact laid_cells laid ps hv _ _ m1 1 240 9 _ (by kernel_rfl) (by kernel_rfl) (by kernel_rfl)
  · exact laid_cells laid ps hv _ _ m2 2 89 9 _ (by kernel_rfl) (by kernel_rfl) (by kernel_rfl)

theorem listed_flat : ∀ g l, (g, l) ∈ listed → ∀ v ∈ l, flatV flatN v = true := by
  have : listed.all (fun x => x.2.all (flatV flatN)) = true := by kernel_rfl
  intro g l hgl v hv
  exact List.all_eq_true.1 (List.all_eq_true.1 this (g, l) hgl) v hv

theorem size_le {W : World} (h : Met W) : Tryz.prog.globals.size ≤ W.heap.size := by
  have h5 : (2, of2) ∈ listed := by
    rw [listed_is]; simp
  obtain ⟨arr, e, fz, h1, _⟩ := h 2 _ h5
  have h2 := (Array.getElem?_eq_some_iff.1 h1).1
  have h3 : Tryz.prog.globals.size = 3 := by kernel_rfl
  omega

theorem met_later {W W1 : World} (hk : Kept W W1) (h : Met W) : Met W1 := by
  intro g l hgl
  obtain ⟨arr, e, fz, h1, h2⟩ := h g l hgl
  exact ⟨arr, e, fz, by rw [hk.old g (Array.getElem?_eq_some_iff.1 h1).1]; exact h1, h2⟩

theorem known_A {W : World} (_ : Met W) : KnownSound Tryz.prog (kk noCall) W := ⟨ext_sound _, fun _ _ _ _ h => by cases h⟩
theorem true_A {W : World} (h : Met W) : Calls Tryz.prog 6 #[] W fun e w => e = .returned (.bool true) ∧ Kept W w :=
  call_true Tryz.func6 bdA6 (by kernel_rfl) (tA805 (known_A h)) (size_le h) h listed_flat

end Go.Proofs.YtgnhcamhcnkbfaaGreatDoor

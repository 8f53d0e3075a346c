/-
  The law's own examples hold: BracketChecks returns true in every world that holds the listed variables.
-/
import Derived.Test.YtkmhecihkckcmaaGreatDoorBcR0
import Derived.Test.YtkmhecihkckcmaaGreatDoorBcR1
import Derived.Test.YtkmhecihkckcmaaGreatDoorBcR2
namespace Go.Proofs.YtkmhecihkckcmaaGreatDoor
open Go.Cm
set_option maxRecDepth 100000
theorem tA53 {W : World} (hK : KA W) : TF W Tryz.f78 pA69 stA49.act stA49.st (vvA75) stA51.st := triFin_code (hihA hK) runA52
theorem tA54 {W : World} (hK : KA W) : TF W Tryz.f78 cdA78 ({ n := 62, t := PT.ofList 0 (PT.nil 8) vsA48, defers := [] }) stA46.st (vvA75) stA51.st := triFin_hds (k := 3) (L1 := stA49) (hihA hK) (by kernel_rfl) runA50 (tA53 hK)
theorem tA55 {W : World} (hK : KA W) : TC W 78 vsA48 stA46.st (vvA75) stA51.st := callT_fin Tryz.func78 bdA78 (by kernel_rfl) (n := 62) (by kernel_rfl) (by kernel_rfl) (tA54 hK)
theorem tA60 {W : World} (hK : KA W) : TX W pA58 stA44.act stA44.st .normal stA58 := by
 refine tx_region (by kernel_rfl) ?_
 refine triOps_cut (i := 0) (j := 3) (L1 := stA46) (hihA hK) (by kernel_rfl) runA47 (by kernel_rfl) ?_
 refine triOps_call (i := 3) (f := 78) (fi := #[]) (ca := #[]) (v := vvA75) (L0 := stA46) (Lc := stA51) (L1 := stA56) rfl rfl (by kernel_rfl) (by kernel_rfl) (by kernel_rfl) (by kernel_rfl) (tA55 hK) runA57 ?_
 exact triOps_end (i := 4) (L1 := stA58) (hihA hK) runA59 (by kernel_rfl)
theorem tA63 {W : World} (hK : KA W) : TX W pA76 stA58.act stA58.st .normal stA61 := triX_code (hihA hK) runA62
theorem tA64 {W : World} (hK : KA W) : TX W pA57 stA44.act stA44.st .normal stA61 := tx_seq (by kernel_rfl) (tA60 hK) (tA63 hK)
theorem tA65 {W : World} (hK : KA W) : TX W pA56 stA42.act stA42.st .normal stA61 := triX_hds (k := 1) (L1 := stA44) (hihA hK) (by kernel_rfl) runA45 (tA64 hK)
theorem tA66 {W : World} (hK : KA W) : TX W pA55 stA42.act stA42.st .normal stA61 := tx_through (by kernel_rfl) (by kernel_rfl) (tA65 hK)
theorem tA69 {W : World} (hK : KA W) : TX W pA77 stA61.act stA61.st .normal stA67 := triX_code (hihA hK) runA68
theorem tA70 {W : World} (hK : KA W) : TX W pA54 stA42.act stA42.st .normal stA67 := tx_seq (by kernel_rfl) (tA66 hK) (tA69 hK)
theorem tA71 {W : World} (hK : KA W) : TX W pA53 stA40.act stA40.st .normal stA67 := triX_hds (k := 2) (L1 := stA42) (hihA hK) (by kernel_rfl) runA43 (tA70 hK)
theorem tA74 {W : World} (hK : KA W) : TX W pA53 stA67.act stA67.st (.exit 0) stA72 := triX_code (hihA hK) runA73
theorem tA75 {W : World} (hK : KA W) : TX W pA52 stA40.act stA40.st (.exit 0) stA72 := tx_loop (m := 1) (by kernel_rfl) rfl (.next (tA71 hK) (.last (tA74 hK)))
theorem tA76 {W : World} (hK : KA W) : TX W pA51 stA40.act stA40.st .normal stA72 := tx_block (by kernel_rfl) (tA75 hK)
theorem tA77 {W : World} (hK : KA W) : TX W pA50 stA38.act stA38.st .normal stA72 := triX_hds (k := 1) (L1 := stA40) (hihA hK) (by kernel_rfl) runA41 (tA76 hK)
theorem tA80 {W : World} (hK : KA W) : TF W Tryz.f64 pA78 stA72.act stA72.st (vvA84) stA78.st := triFin_code (hihA hK) runA79
theorem tA81 {W : World} (hK : KA W) : TF W Tryz.f64 pA49 stA38.act stA38.st (vvA84) stA78.st := tf_seq (by kernel_rfl) (tA77 hK) (tA80 hK)
theorem tA82 {W : World} (hK : KA W) : TF W Tryz.f64 cdA64 ({ n := 89, t := PT.ofList 0 (PT.nil 8) vsA37, defers := [] }) stA35.st (vvA84) stA78.st := triFin_hds (k := 7) (L1 := stA38) (hihA hK) (by kernel_rfl) runA39 (tA81 hK)
theorem tA83 {W : World} (hK : KA W) : TC W 64 vsA37 stA35.st (vvA84) stA78.st := callT_fin Tryz.func64 bdA64 (by kernel_rfl) (n := 89) (by kernel_rfl) (by kernel_rfl) (tA82 hK)
theorem tA88 {W : World} (hK : KA W) : TX W pA40 stA33.act stA33.st .normal stA86 := by
 refine tx_region (by kernel_rfl) ?_
 refine triOps_cut (i := 0) (j := 3) (L1 := stA35) (hihA hK) (by kernel_rfl) runA36 (by kernel_rfl) ?_
 refine triOps_call (i := 3) (f := 64) (fi := #[]) (ca := #[]) (v := vvA84) (L0 := stA35) (Lc := stA78) (L1 := stA84) rfl rfl (by kernel_rfl) (by kernel_rfl) (by kernel_rfl) (by kernel_rfl) (tA83 hK) runA85 ?_
 exact triOps_end (i := 4) (L1 := stA86) (hihA hK) runA87 (by kernel_rfl)
theorem tA91 {W : World} (hK : KA W) : TX W pA85 stA86.act stA86.st .normal stA89 := triX_code (hihA hK) runA90
theorem tA92 {W : World} (hK : KA W) : TX W pA39 stA33.act stA33.st .normal stA89 := tx_seq (by kernel_rfl) (tA88 hK) (tA91 hK)
theorem tA93 {W : World} (hK : KA W) : TX W pA38 stA31.act stA31.st .normal stA89 := triX_hds (k := 1) (L1 := stA33) (hihA hK) (by kernel_rfl) runA34 (tA92 hK)
theorem tA94 {W : World} (hK : KA W) : TX W pA37 stA31.act stA31.st .normal stA89 := tx_through (by kernel_rfl) (by kernel_rfl) (tA93 hK)
theorem tA97 {W : World} (hK : KA W) : TX W pA87 stA89.act stA89.st .normal stA95 := triX_code (hihA hK) runA96
theorem tA98 {W : World} (hK : KA W) : TX W pA36 stA31.act stA31.st .normal stA95 := tx_seq (by kernel_rfl) (tA94 hK) (tA97 hK)
theorem tA99 {W : World} (hK : KA W) : TX W pA35 stA29.act stA29.st .normal stA95 := triX_hds (k := 2) (L1 := stA31) (hihA hK) (by kernel_rfl) runA32 (tA98 hK)
theorem tA102 {W : World} (hK : KA W) : TX W pA35 stA95.act stA95.st (.exit 0) stA100 := triX_code (hihA hK) runA101
theorem tA103 {W : World} (hK : KA W) : TX W pA34 stA29.act stA29.st (.exit 0) stA100 := tx_loop (m := 1) (by kernel_rfl) rfl (.next (tA99 hK) (.last (tA102 hK)))
theorem tA104 {W : World} (hK : KA W) : TX W pA33 stA29.act stA29.st .normal stA100 := tx_block (by kernel_rfl) (tA103 hK)
theorem tA105 {W : World} (hK : KA W) : TX W pA32 stA27.act stA27.st .normal stA100 := triX_hds (k := 1) (L1 := stA29) (hihA hK) (by kernel_rfl) runA30 (tA104 hK)
theorem tA108 {W : World} (hK : KA W) : TF W Tryz.f52 pA88 stA100.act stA100.st (vvA89) stA106.st := triFin_code (hihA hK) runA107
theorem tA109 {W : World} (hK : KA W) : TF W Tryz.f52 pA31 stA27.act stA27.st (vvA89) stA106.st := tf_seq (by kernel_rfl) (tA105 hK) (tA108 hK)
theorem tA110 {W : World} (hK : KA W) : TF W Tryz.f52 cdA52 ({ n := 46, t := PT.ofList 0 (PT.nil 8) vsA26, defers := [] }) stA24.st (vvA89) stA106.st := triFin_hds (k := 4) (L1 := stA27) (hihA hK) (by kernel_rfl) runA28 (tA109 hK)
theorem tA111 {W : World} (hK : KA W) : TC W 52 vsA26 stA24.st (vvA89) stA106.st := callT_fin Tryz.func52 bdA52 (by kernel_rfl) (n := 46) (by kernel_rfl) (by kernel_rfl) (tA110 hK)
theorem tA116 {W : World} (hK : KA W) : TX W pA30 stA22.act stA22.st .normal stA114 := by
 refine tx_region (by kernel_rfl) ?_
 refine triOps_cut (i := 0) (j := 2) (L1 := stA24) (hihA hK) (by kernel_rfl) runA25 (by kernel_rfl) ?_
 refine triOps_call (i := 2) (f := 52) (fi := #[]) (ca := #[]) (v := vvA89) (L0 := stA24) (Lc := stA106) (L1 := stA112) rfl rfl (by kernel_rfl) (by kernel_rfl) (by kernel_rfl) (by kernel_rfl) (tA111 hK) runA113 ?_
 exact triOps_end (i := 3) (L1 := stA114) (hihA hK) runA115 (by kernel_rfl)
theorem tA119 {W : World} (hK : KA W) : TF W Tryz.f40 pA90 stA114.act stA114.st (vvA92) stA117.st := triFin_code (hihA hK) runA118
theorem tA120 {W : World} (hK : KA W) : TF W Tryz.f40 pA29 stA22.act stA22.st (vvA92) stA117.st := tf_seq (by kernel_rfl) (tA116 hK) (tA119 hK)
theorem tA121 {W : World} (hK : KA W) : TF W Tryz.f40 cdA40 ({ n := 94, t := PT.ofList 0 (PT.nil 8) vsA21, defers := [] }) stA19.st (vvA92) stA117.st := triFin_hds (k := 4) (L1 := stA22) (hihA hK) (by kernel_rfl) runA23 (tA120 hK)
theorem tA122 {W : World} (hK : KA W) : TC W 40 vsA21 stA19.st (vvA92) stA117.st := callT_fin Tryz.func40 bdA40 (by kernel_rfl) (n := 94) (by kernel_rfl) (by kernel_rfl) (tA121 hK)
theorem tA127 {W : World} (hK : KA W) : TX W pA23 stA17.act stA17.st .normal stA125 := by
 refine tx_region (by kernel_rfl) ?_
 refine triOps_cut (i := 0) (j := 3) (L1 := stA19) (hihA hK) (by kernel_rfl) runA20 (by kernel_rfl) ?_
 refine triOps_call (i := 3) (f := 40) (fi := #[]) (ca := #[]) (v := vvA92) (L0 := stA19) (Lc := stA117) (L1 := stA123) rfl rfl (by kernel_rfl) (by kernel_rfl) (by kernel_rfl) (by kernel_rfl) (tA122 hK) runA124 ?_
 exact triOps_end (i := 4) (L1 := stA125) (hihA hK) runA126 (by kernel_rfl)
theorem tA130 {W : World} (hK : KA W) : TX W pA93 stA125.act stA125.st .normal stA128 := triX_code (hihA hK) runA129
theorem tA131 {W : World} (hK : KA W) : TX W pA22 stA17.act stA17.st .normal stA128 := tx_seq (by kernel_rfl) (tA127 hK) (tA130 hK)
theorem tA132 {W : World} (hK : KA W) : TX W pA16 stA15.act stA15.st .normal stA128 := triX_hds (k := 3) (L1 := stA17) (hihA hK) (by kernel_rfl) runA18 (tA131 hK)
theorem tA133 {W : World} (hK : KA W) : TX W pA15 stA15.act stA15.st .normal stA128 := tx_through (by kernel_rfl) (by kernel_rfl) (tA132 hK)
theorem tA136 {W : World} (hK : KA W) : TX W pA98 stA128.act stA128.st .normal stA134 := triX_code (hihA hK) runA135
theorem tA137 {W : World} (hK : KA W) : TX W pA14 stA15.act stA15.st .normal stA134 := tx_seq (by kernel_rfl) (tA133 hK) (tA136 hK)
theorem tA138 {W : World} (hK : KA W) : TX W pA13 stA13.act stA13.st .normal stA134 := triX_hds (k := 2) (L1 := stA15) (hihA hK) (by kernel_rfl) runA16 (tA137 hK)
theorem tA141 {W : World} (hK : KA W) : TX W pA13 stA134.act stA134.st (.exit 0) stA139 := triX_code (hihA hK) runA140
theorem tA142 {W : World} (hK : KA W) : TX W pA12 stA13.act stA13.st (.exit 0) stA139 := tx_loop (m := 1) (by kernel_rfl) rfl (.next (tA138 hK) (.last (tA141 hK)))
theorem tA143 {W : World} (hK : KA W) : TX W pA11 stA13.act stA13.st .normal stA139 := tx_block (by kernel_rfl) (tA142 hK)
theorem tA144 {W : World} (hK : KA W) : TX W pA10 stA11.act stA11.st .normal stA139 := triX_hds (k := 1) (L1 := stA13) (hihA hK) (by kernel_rfl) runA14 (tA143 hK)
theorem tA147 {W : World} (hK : KA W) : TF W Tryz.f27 pA99 stA139.act stA139.st (vvA100) stA145.st := triFin_code (hihA hK) runA146
theorem tA148 {W : World} (hK : KA W) : TF W Tryz.f27 pA9 stA11.act stA11.st (vvA100) stA145.st := tf_seq (by kernel_rfl) (tA144 hK) (tA147 hK)
theorem tA149 {W : World} (hK : KA W) : TF W Tryz.f27 cdA27 ({ n := 82, t := PT.ofList 0 (PT.nil 8) vsA10, defers := [] }) stA8.st (vvA100) stA145.st := triFin_hds (k := 5) (L1 := stA11) (hihA hK) (by kernel_rfl) runA12 (tA148 hK)
theorem tA150 {W : World} (hK : KA W) : TC W 27 vsA10 stA8.st (vvA100) stA145.st := callT_fin Tryz.func27 bdA27 (by kernel_rfl) (n := 82) (by kernel_rfl) (by kernel_rfl) (tA149 hK)
theorem tA155 {W : World} (hK : KA W) : TX W pA6 stA6.act stA6.st .normal stA153 := by
 refine tx_region (by kernel_rfl) ?_
 refine triOps_cut (i := 0) (j := 1) (L1 := stA8) (hihA hK) (by kernel_rfl) runA9 (by kernel_rfl) ?_
 refine triOps_call (i := 1) (f := 27) (fi := #[]) (ca := #[]) (v := vvA100) (L0 := stA8) (Lc := stA145) (L1 := stA151) rfl rfl (by kernel_rfl) (by kernel_rfl) (by kernel_rfl) (by kernel_rfl) (tA150 hK) runA152 ?_
 exact triOps_end (i := 2) (L1 := stA153) (hihA hK) runA154 (by kernel_rfl)
theorem tA158 {W : World} (hK : KA W) : TF W Tryz.f13 pA101 stA153.act stA153.st (vvA102) stA156.st := triFin_code (hihA hK) runA157
theorem tA159 {W : World} (hK : KA W) : TF W Tryz.f13 pA5 stA6.act stA6.st (vvA102) stA156.st := tf_seq (by kernel_rfl) (tA155 hK) (tA158 hK)
theorem tA160 {W : World} (hK : KA W) : TF W Tryz.f13 cdA13 ({ n := 18, t := PT.ofList 0 (PT.nil 8) vsA5, defers := [] }) stA3.st (vvA102) stA156.st := triFin_hds (k := 1) (L1 := stA6) (hihA hK) (by kernel_rfl) runA7 (tA159 hK)
theorem tA161 {W : World} (hK : KA W) : TC W 13 vsA5 stA3.st (vvA102) stA156.st := callT_fin Tryz.func13 bdA13 (by kernel_rfl) (n := 18) (by kernel_rfl) (by kernel_rfl) (tA160 hK)
theorem tA166 {W : World} (hK : KA W) : TX W pA1 stA1.act stA1.st .normal stA164 := by
 refine tx_region (by kernel_rfl) ?_
 refine triOps_cut (i := 0) (j := 1) (L1 := stA3) (hihA hK) (by kernel_rfl) runA4 (by kernel_rfl) ?_
 refine triOps_call (i := 1) (f := 13) (fi := #[]) (ca := #[]) (v := vvA102) (L0 := stA3) (Lc := stA156) (L1 := stA162) rfl rfl (by kernel_rfl) (by kernel_rfl) (by kernel_rfl) (by kernel_rfl) (tA161 hK) runA163 ?_
 exact triOps_end (i := 2) (L1 := stA164) (hihA hK) runA165 (by kernel_rfl)
theorem tA224 {W : World} (hK : KA W) : TF W Tryz.f78 pA69 stA220.act stA220.st (vvA151) stA222.st := triFin_code (hihA hK) runA223
theorem tA225 {W : World} (hK : KA W) : TF W Tryz.f78 cdA78 ({ n := 62, t := PT.ofList 0 (PT.nil 8) vsA219, defers := [] }) stA217.st (vvA151) stA222.st := triFin_hds (k := 3) (L1 := stA220) (hihA hK) (by kernel_rfl) runA221 (tA224 hK)
theorem tA226 {W : World} (hK : KA W) : TC W 78 vsA219 stA217.st (vvA151) stA222.st := callT_fin Tryz.func78 bdA78 (by kernel_rfl) (n := 62) (by kernel_rfl) (by kernel_rfl) (tA225 hK)
theorem tA231 {W : World} (hK : KA W) : TX W pA58 stA215.act stA215.st .normal stA229 := by
 refine tx_region (by kernel_rfl) ?_
 refine triOps_cut (i := 0) (j := 3) (L1 := stA217) (hihA hK) (by kernel_rfl) runA218 (by kernel_rfl) ?_
 refine triOps_call (i := 3) (f := 78) (fi := #[]) (ca := #[]) (v := vvA151) (L0 := stA217) (Lc := stA222) (L1 := stA227) rfl rfl (by kernel_rfl) (by kernel_rfl) (by kernel_rfl) (by kernel_rfl) (tA226 hK) runA228 ?_
 exact triOps_end (i := 4) (L1 := stA229) (hihA hK) runA230 (by kernel_rfl)
theorem tA234 {W : World} (hK : KA W) : TX W pA76 stA229.act stA229.st .normal stA232 := triX_code (hihA hK) runA233
theorem tA235 {W : World} (hK : KA W) : TX W pA57 stA215.act stA215.st .normal stA232 := tx_seq (by kernel_rfl) (tA231 hK) (tA234 hK)
theorem tA236 {W : World} (hK : KA W) : TX W pA56 stA213.act stA213.st .normal stA232 := triX_hds (k := 1) (L1 := stA215) (hihA hK) (by kernel_rfl) runA216 (tA235 hK)
theorem tA237 {W : World} (hK : KA W) : TX W pA55 stA213.act stA213.st .normal stA232 := tx_through (by kernel_rfl) (by kernel_rfl) (tA236 hK)
theorem tA240 {W : World} (hK : KA W) : TX W pA77 stA232.act stA232.st .normal stA238 := triX_code (hihA hK) runA239
theorem tA241 {W : World} (hK : KA W) : TX W pA54 stA213.act stA213.st .normal stA238 := tx_seq (by kernel_rfl) (tA237 hK) (tA240 hK)
theorem tA242 {W : World} (hK : KA W) : TX W pA53 stA211.act stA211.st .normal stA238 := triX_hds (k := 2) (L1 := stA213) (hihA hK) (by kernel_rfl) runA214 (tA241 hK)
theorem tA245 {W : World} (hK : KA W) : TX W pA53 stA238.act stA238.st (.exit 0) stA243 := triX_code (hihA hK) runA244
theorem tA246 {W : World} (hK : KA W) : TX W pA52 stA211.act stA211.st (.exit 0) stA243 := tx_loop (m := 1) (by kernel_rfl) rfl (.next (tA242 hK) (.last (tA245 hK)))
theorem tA247 {W : World} (hK : KA W) : TX W pA51 stA211.act stA211.st .normal stA243 := tx_block (by kernel_rfl) (tA246 hK)
theorem tA248 {W : World} (hK : KA W) : TX W pA50 stA209.act stA209.st .normal stA243 := triX_hds (k := 1) (L1 := stA211) (hihA hK) (by kernel_rfl) runA212 (tA247 hK)
theorem tA251 {W : World} (hK : KA W) : TF W Tryz.f64 pA78 stA243.act stA243.st (vvA157) stA249.st := triFin_code (hihA hK) runA250
theorem tA252 {W : World} (hK : KA W) : TF W Tryz.f64 pA49 stA209.act stA209.st (vvA157) stA249.st := tf_seq (by kernel_rfl) (tA248 hK) (tA251 hK)
theorem tA253 {W : World} (hK : KA W) : TF W Tryz.f64 cdA64 ({ n := 89, t := PT.ofList 0 (PT.nil 8) vsA208, defers := [] }) stA206.st (vvA157) stA249.st := triFin_hds (k := 7) (L1 := stA209) (hihA hK) (by kernel_rfl) runA210 (tA252 hK)
theorem tA254 {W : World} (hK : KA W) : TC W 64 vsA208 stA206.st (vvA157) stA249.st := callT_fin Tryz.func64 bdA64 (by kernel_rfl) (n := 89) (by kernel_rfl) (by kernel_rfl) (tA253 hK)
theorem tA259 {W : World} (hK : KA W) : TX W pA40 stA204.act stA204.st .normal stA257 := by
 refine tx_region (by kernel_rfl) ?_
 refine triOps_cut (i := 0) (j := 3) (L1 := stA206) (hihA hK) (by kernel_rfl) runA207 (by kernel_rfl) ?_
 refine triOps_call (i := 3) (f := 64) (fi := #[]) (ca := #[]) (v := vvA157) (L0 := stA206) (Lc := stA249) (L1 := stA255) rfl rfl (by kernel_rfl) (by kernel_rfl) (by kernel_rfl) (by kernel_rfl) (tA254 hK) runA256 ?_
 exact triOps_end (i := 4) (L1 := stA257) (hihA hK) runA258 (by kernel_rfl)
theorem tA262 {W : World} (hK : KA W) : TX W pA85 stA257.act stA257.st .normal stA260 := triX_code (hihA hK) runA261
theorem tA263 {W : World} (hK : KA W) : TX W pA39 stA204.act stA204.st .normal stA260 := tx_seq (by kernel_rfl) (tA259 hK) (tA262 hK)
theorem tA264 {W : World} (hK : KA W) : TX W pA38 stA202.act stA202.st .normal stA260 := triX_hds (k := 1) (L1 := stA204) (hihA hK) (by kernel_rfl) runA205 (tA263 hK)
theorem tA265 {W : World} (hK : KA W) : TX W pA37 stA202.act stA202.st .normal stA260 := tx_through (by kernel_rfl) (by kernel_rfl) (tA264 hK)
theorem tA268 {W : World} (hK : KA W) : TX W pA87 stA260.act stA260.st .normal stA266 := triX_code (hihA hK) runA267
theorem tA269 {W : World} (hK : KA W) : TX W pA36 stA202.act stA202.st .normal stA266 := tx_seq (by kernel_rfl) (tA265 hK) (tA268 hK)
theorem tA270 {W : World} (hK : KA W) : TX W pA35 stA200.act stA200.st .normal stA266 := triX_hds (k := 2) (L1 := stA202) (hihA hK) (by kernel_rfl) runA203 (tA269 hK)
theorem tA273 {W : World} (hK : KA W) : TX W pA35 stA266.act stA266.st (.exit 0) stA271 := triX_code (hihA hK) runA272
theorem tA274 {W : World} (hK : KA W) : TX W pA34 stA200.act stA200.st (.exit 0) stA271 := tx_loop (m := 1) (by kernel_rfl) rfl (.next (tA270 hK) (.last (tA273 hK)))
theorem tA275 {W : World} (hK : KA W) : TX W pA33 stA200.act stA200.st .normal stA271 := tx_block (by kernel_rfl) (tA274 hK)
theorem tA276 {W : World} (hK : KA W) : TX W pA32 stA198.act stA198.st .normal stA271 := triX_hds (k := 1) (L1 := stA200) (hihA hK) (by kernel_rfl) runA201 (tA275 hK)
theorem tA279 {W : World} (hK : KA W) : TF W Tryz.f52 pA88 stA271.act stA271.st (vvA159) stA277.st := triFin_code (hihA hK) runA278
theorem tA280 {W : World} (hK : KA W) : TF W Tryz.f52 pA31 stA198.act stA198.st (vvA159) stA277.st := tf_seq (by kernel_rfl) (tA276 hK) (tA279 hK)
theorem tA281 {W : World} (hK : KA W) : TF W Tryz.f52 cdA52 ({ n := 46, t := PT.ofList 0 (PT.nil 8) vsA197, defers := [] }) stA195.st (vvA159) stA277.st := triFin_hds (k := 4) (L1 := stA198) (hihA hK) (by kernel_rfl) runA199 (tA280 hK)
theorem tA282 {W : World} (hK : KA W) : TC W 52 vsA197 stA195.st (vvA159) stA277.st := callT_fin Tryz.func52 bdA52 (by kernel_rfl) (n := 46) (by kernel_rfl) (by kernel_rfl) (tA281 hK)
theorem tA287 {W : World} (hK : KA W) : TX W pA30 stA193.act stA193.st .normal stA285 := by
 refine tx_region (by kernel_rfl) ?_
 refine triOps_cut (i := 0) (j := 2) (L1 := stA195) (hihA hK) (by kernel_rfl) runA196 (by kernel_rfl) ?_
 refine triOps_call (i := 2) (f := 52) (fi := #[]) (ca := #[]) (v := vvA159) (L0 := stA195) (Lc := stA277) (L1 := stA283) rfl rfl (by kernel_rfl) (by kernel_rfl) (by kernel_rfl) (by kernel_rfl) (tA282 hK) runA284 ?_
 exact triOps_end (i := 3) (L1 := stA285) (hihA hK) runA286 (by kernel_rfl)
theorem tA290 {W : World} (hK : KA W) : TF W Tryz.f40 pA90 stA285.act stA285.st (vvA161) stA288.st := triFin_code (hihA hK) runA289
theorem tA291 {W : World} (hK : KA W) : TF W Tryz.f40 pA29 stA193.act stA193.st (vvA161) stA288.st := tf_seq (by kernel_rfl) (tA287 hK) (tA290 hK)
theorem tA292 {W : World} (hK : KA W) : TF W Tryz.f40 cdA40 ({ n := 94, t := PT.ofList 0 (PT.nil 8) vsA192, defers := [] }) stA190.st (vvA161) stA288.st := triFin_hds (k := 4) (L1 := stA193) (hihA hK) (by kernel_rfl) runA194 (tA291 hK)
theorem tA293 {W : World} (hK : KA W) : TC W 40 vsA192 stA190.st (vvA161) stA288.st := callT_fin Tryz.func40 bdA40 (by kernel_rfl) (n := 94) (by kernel_rfl) (by kernel_rfl) (tA292 hK)
theorem tA298 {W : World} (hK : KA W) : TX W pA23 stA188.act stA188.st .normal stA296 := by
 refine tx_region (by kernel_rfl) ?_
 refine triOps_cut (i := 0) (j := 3) (L1 := stA190) (hihA hK) (by kernel_rfl) runA191 (by kernel_rfl) ?_
 refine triOps_call (i := 3) (f := 40) (fi := #[]) (ca := #[]) (v := vvA161) (L0 := stA190) (Lc := stA288) (L1 := stA294) rfl rfl (by kernel_rfl) (by kernel_rfl) (by kernel_rfl) (by kernel_rfl) (tA293 hK) runA295 ?_
 exact triOps_end (i := 4) (L1 := stA296) (hihA hK) runA297 (by kernel_rfl)
theorem tA301 {W : World} (hK : KA W) : TX W pA93 stA296.act stA296.st .normal stA299 := triX_code (hihA hK) runA300
theorem tA302 {W : World} (hK : KA W) : TX W pA22 stA188.act stA188.st .normal stA299 := tx_seq (by kernel_rfl) (tA298 hK) (tA301 hK)
theorem tA303 {W : World} (hK : KA W) : TX W pA16 stA186.act stA186.st .normal stA299 := triX_hds (k := 3) (L1 := stA188) (hihA hK) (by kernel_rfl) runA189 (tA302 hK)
theorem tA304 {W : World} (hK : KA W) : TX W pA15 stA186.act stA186.st .normal stA299 := tx_through (by kernel_rfl) (by kernel_rfl) (tA303 hK)
theorem tA307 {W : World} (hK : KA W) : TX W pA98 stA299.act stA299.st .normal stA305 := triX_code (hihA hK) runA306
theorem tA308 {W : World} (hK : KA W) : TX W pA14 stA186.act stA186.st .normal stA305 := tx_seq (by kernel_rfl) (tA304 hK) (tA307 hK)
theorem tA309 {W : World} (hK : KA W) : TX W pA13 stA184.act stA184.st .normal stA305 := triX_hds (k := 2) (L1 := stA186) (hihA hK) (by kernel_rfl) runA187 (tA308 hK)
theorem tA312 {W : World} (hK : KA W) : TX W pA13 stA305.act stA305.st (.exit 0) stA310 := triX_code (hihA hK) runA311
theorem tA313 {W : World} (hK : KA W) : TX W pA12 stA184.act stA184.st (.exit 0) stA310 := tx_loop (m := 1) (by kernel_rfl) rfl (.next (tA309 hK) (.last (tA312 hK)))
theorem tA314 {W : World} (hK : KA W) : TX W pA11 stA184.act stA184.st .normal stA310 := tx_block (by kernel_rfl) (tA313 hK)
theorem tA315 {W : World} (hK : KA W) : TX W pA10 stA182.act stA182.st .normal stA310 := triX_hds (k := 1) (L1 := stA184) (hihA hK) (by kernel_rfl) runA185 (tA314 hK)
theorem tA318 {W : World} (hK : KA W) : TF W Tryz.f27 pA99 stA310.act stA310.st (vvA167) stA316.st := triFin_code (hihA hK) runA317
theorem tA319 {W : World} (hK : KA W) : TF W Tryz.f27 pA9 stA182.act stA182.st (vvA167) stA316.st := tf_seq (by kernel_rfl) (tA315 hK) (tA318 hK)
theorem tA320 {W : World} (hK : KA W) : TF W Tryz.f27 cdA27 ({ n := 82, t := PT.ofList 0 (PT.nil 8) vsA181, defers := [] }) stA179.st (vvA167) stA316.st := triFin_hds (k := 5) (L1 := stA182) (hihA hK) (by kernel_rfl) runA183 (tA319 hK)
theorem tA321 {W : World} (hK : KA W) : TC W 27 vsA181 stA179.st (vvA167) stA316.st := callT_fin Tryz.func27 bdA27 (by kernel_rfl) (n := 82) (by kernel_rfl) (by kernel_rfl) (tA320 hK)
theorem tA326 {W : World} (hK : KA W) : TX W pA122 stA177.act stA177.st .normal stA324 := by
 refine tx_region (by kernel_rfl) ?_
 refine triOps_cut (i := 0) (j := 1) (L1 := stA179) (hihA hK) (by kernel_rfl) runA180 (by kernel_rfl) ?_
 refine triOps_call (i := 1) (f := 27) (fi := #[]) (ca := #[]) (v := vvA167) (L0 := stA179) (Lc := stA316) (L1 := stA322) rfl rfl (by kernel_rfl) (by kernel_rfl) (by kernel_rfl) (by kernel_rfl) (tA321 hK) runA323 ?_
 exact triOps_end (i := 2) (L1 := stA324) (hihA hK) runA325 (by kernel_rfl)
theorem tA329 {W : World} (hK : KA W) : TF W Tryz.f33 pA169 stA324.act stA324.st (vvA171) stA327.st := triFin_code (hihA hK) runA328
theorem tA330 {W : World} (hK : KA W) : TF W Tryz.f33 pA121 stA177.act stA177.st (vvA171) stA327.st := tf_seq (by kernel_rfl) (tA326 hK) (tA329 hK)
theorem tA331 {W : World} (hK : KA W) : TF W Tryz.f33 cdA33 ({ n := 53, t := PT.ofList 0 (PT.nil 8) vsA176, defers := [] }) stA174.st (vvA171) stA327.st := triFin_hds (k := 1) (L1 := stA177) (hihA hK) (by kernel_rfl) runA178 (tA330 hK)
theorem tA332 {W : World} (hK : KA W) : TC W 33 vsA176 stA174.st (vvA171) stA327.st := callT_fin Tryz.func33 bdA33 (by kernel_rfl) (n := 53) (by kernel_rfl) (by kernel_rfl) (tA331 hK)
theorem tA337 {W : World} (hK : KA W) : TX W pA117 stA172.act stA172.st .normal stA335 := by
 refine tx_region (by kernel_rfl) ?_
 refine triOps_cut (i := 0) (j := 2) (L1 := stA174) (hihA hK) (by kernel_rfl) runA175 (by kernel_rfl) ?_
 refine triOps_call (i := 2) (f := 33) (fi := #[]) (ca := #[]) (v := vvA171) (L0 := stA174) (Lc := stA327) (L1 := stA333) rfl rfl (by kernel_rfl) (by kernel_rfl) (by kernel_rfl) (by kernel_rfl) (tA332 hK) runA334 ?_
 exact triOps_end (i := 3) (L1 := stA335) (hihA hK) runA336 (by kernel_rfl)
theorem tA340 {W : World} (hK : KA W) : TF W Tryz.f18 pA172 stA335.act stA335.st (vt) stA338.st := triFin_code (hihA hK) runA339
theorem tA341 {W : World} (hK : KA W) : TF W Tryz.f18 pA116 stA172.act stA172.st (vt) stA338.st := tf_seq (by kernel_rfl) (tA337 hK) (tA340 hK)
theorem tA342 {W : World} (hK : KA W) : TF W Tryz.f18 cdA18 ({ n := 20, t := PT.ofList 0 (PT.nil 8) vsA171, defers := [] }) stA169.st (vt) stA338.st := triFin_hds (k := 1) (L1 := stA172) (hihA hK) (by kernel_rfl) runA173 (tA341 hK)
theorem tA343 {W : World} (hK : KA W) : TC W 18 vsA171 stA169.st (vt) stA338.st := callT_fin Tryz.func18 bdA18 (by kernel_rfl) (n := 20) (by kernel_rfl) (by kernel_rfl) (tA342 hK)
theorem tA348 {W : World} (hK : KA W) : TX W pA109 stA167.act stA167.st .normal stA346 := by
 refine tx_region (by kernel_rfl) ?_
 refine triOps_cut (i := 0) (j := 22) (L1 := stA169) (hihA hK) (by kernel_rfl) runA170 (by kernel_rfl) ?_
 refine triOps_call (i := 22) (f := 18) (fi := #[]) (ca := #[]) (v := vt) (L0 := stA169) (Lc := stA338) (L1 := stA344) rfl rfl (by kernel_rfl) (by kernel_rfl) (by kernel_rfl) (by kernel_rfl) (tA343 hK) runA345 ?_
 exact triOps_end (i := 23) (L1 := stA346) (hihA hK) runA347 (by kernel_rfl)
theorem tA351 {W : World} (hK : KA W) : TF W Tryz.f4 pA173 stA346.act stA346.st (vt) stA349.st := triFin_code (hihA hK) runA350
theorem tA352 {W : World} (hK : KA W) : TF W Tryz.f4 pA108 stA167.act stA167.st (vt) stA349.st := tf_seq (by kernel_rfl) (tA348 hK) (tA351 hK)
theorem tA353 {W : World} (hK : KA W) : TF W Tryz.f4 pA103 stA164.act stA164.st (vt) stA349.st := triFin_hds (k := 1) (L1 := stA167) (hihA hK) (by kernel_rfl) runA168 (tA352 hK)
theorem tA354 {W : World} (hK : KA W) : TF W Tryz.f4 pA0 stA1.act stA1.st (vt) stA349.st := tf_seq (by kernel_rfl) (tA166 hK) (tA353 hK)
theorem tA355 {W : World} (hK : KA W) : TF W Tryz.f4 cdA4 ({ n := 39, t := PT.ofList 0 (PT.nil 8) vsA0, defers := [] }) start0 (vt) stA349.st := triFin_hds (k := 1) (L1 := stA1) (hihA hK) (by kernel_rfl) runA2 (tA354 hK)
theorem tA356 {W : World} (hK : KA W) : TC W 4 vsA0 start0 (vt) stA349.st := callT_fin Tryz.func4 bdA4 (by kernel_rfl) (n := 39) (by kernel_rfl) (by kernel_rfl) (tA355 hK)
noncomputable def of0 : List Value := (dc Tryz.prog 9 125 Rows.laid_tactus_sign_classes).getD []
noncomputable def of1 : List Value := (dc Tryz.prog 9 140 Rows.laid_tactus_sign_uses).getD []
noncomputable def of2 : List Value := (dc Tryz.prog 9 82 Rows.laid_tactus_item_half).getD []
theorem listed_is : listed = [(0, of0), (1, of1), (2, of2)] := by kernel_rfl
theorem listed_eq : ∀ g l, (g, l) ∈ listed → (g = 0 ∧ l = of0) ∨ (g = 1 ∧ l = of1) ∨ (g = 2 ∧ l = of2) := by
 rw [listed_is]
 intro g l h
 simpa only [List.mem_cons, Prod.mk.injEq, List.not_mem_nil, or_false] using h
def Laids (laid : List (String × DataW Unit)) : Prop := ("tactus/sign.classes", Rows.laid_tactus_sign_classes) ∈ laid ∧ ("tactus/sign.uses", Rows.laid_tactus_sign_uses) ∈ laid ∧ ("tactus/item.half", Rows.laid_tactus_item_half) ∈ laid
def Met (W : World) : Prop := ∀ g l, (g, l) ∈ listed → ∃ (arr : Array Value) (e : TypeId) (fz : Nat × Nat), W.heap[g]? = some (.cells arr e fz) ∧ arr.toList = l
theorem listed_met {laid : List (String × DataW Unit)} (hm : Laids laid) {W : World} (h : laidMet Tryz.prog laid W) : Met W := by
 obtain ⟨ps, hv, _⟩ := h
 obtain ⟨m0, m1, m2⟩ := hm
 intro g l hgl
 rcases listed_eq g l hgl with ⟨rfl, rfl⟩ | ⟨rfl, rfl⟩ | ⟨rfl, rfl⟩
 ·exact laid_cells laid ps hv _ _ m0 0 125 9 _ (by kernel_rfl) (by kernel_rfl) (by kernel_rfl)
 ·exact laid_cells laid ps hv _ _ m1 1 140 9 _ (by kernel_rfl) (by kernel_rfl) (by kernel_rfl)
 ·exact laid_cells laid ps hv _ _ m2 2 82 9 _ (by kernel_rfl) (by kernel_rfl) (by kernel_rfl)
theorem listed_flat : ∀ g l, (g, l) ∈ listed → ∀ v ∈ l, flatV flatN v = true := by
 have : listed.all (fun x => x.2.all (flatV flatN)) = true := by kernel_rfl
 intro g l hgl v hv
 exact List.all_eq_true.1 (List.all_eq_true.1 this (g, l) hgl) v hv
theorem size_le {W : World} (h : Met W) : Tryz.prog.globals.size ≤ W.heap.size := by
 have h5 : (2, of2) ∈ listed := by
  rw [listed_is]; simp
 obtain ⟨arr, e, fz, h1, _⟩ := h 2 _ h5
 have h2 := (Array.getElem?_eq_some_iff.1 h1).1
 have h3 : Tryz.prog.globals.size = 3 := by kernel_rfl
 omega
theorem met_later {W W1 : World} (hk : Kept W W1) (h : Met W) : Met W1 := by
 intro g l hgl
 obtain ⟨arr, e, fz, h1, h2⟩ := h g l hgl
 exact ⟨arr, e, fz, by rw [hk.old g (Array.getElem?_eq_some_iff.1 h1).1]; exact h1, h2⟩
theorem known_A {W : World} (_ : Met W) : KnownSound Tryz.prog (kk noCall) W := ⟨ext_sound _, fun _ _ _ _ h => by cases h⟩
theorem true_A {W : World} (h : Met W) : Calls Tryz.prog 4 #[] W fun e w => e = .returned (.bool true) ∧ Kept W w :=
 call_true Tryz.func4 bdA4 (by kernel_rfl) (tA356 (known_A h)) (size_le h) h listed_flat
end Go.Proofs.YtkmhecihkckcmaaGreatDoor

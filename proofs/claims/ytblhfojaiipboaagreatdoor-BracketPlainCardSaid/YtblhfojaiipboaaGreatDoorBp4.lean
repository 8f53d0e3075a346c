/-
  The law's own examples hold: BracketPlain returns true in every world that holds the listed variables.
-/
import Derived.Test.YtblhfojaiipboaaGreatDoorBpR0
import Derived.Test.YtblhfojaiipboaaGreatDoorBpR1
import Derived.Test.YtblhfojaiipboaaGreatDoorBpR2
import Derived.Test.YtblhfojaiipboaaGreatDoorBpR3
import Derived.Test.YtblhfojaiipboaaGreatDoorBpR4
namespace Go.Proofs.YtblhfojaiipboaaGreatDoor
open Go.Cm
set_option maxRecDepth 100000
theorem tA59 {W : World} (hK : KA W) : TX W pA64 stA55.act stA55.st (.exit 0) stA57 := triX_code (hihA hK) runA58
theorem tA60 {W : World} (hK : KA W) : TX W pA63 stA51.act stA51.st (.exit 0) stA57 := tx_loop (m := 3) (by kernel_rfl) rfl (rounds_run (hihA hK) runA54 (rounds_run (hihA hK) runA56 (.last (tA59 hK))))
theorem tA61 {W : World} (hK : KA W) : TX W pA62 stA51.act stA51.st .normal stA57 := tx_block (by kernel_rfl) (tA60 hK)
theorem tA62 {W : World} (hK : KA W) : TX W pA61 stA49.act stA49.st .normal stA57 := triX_hds (k := 1) (L1 := stA51) (hihA hK) (by kernel_rfl) runA52 (tA61 hK)
theorem tA65 {W : World} (hK : KA W) : TF W Tryz.f51 pA78 stA57.act stA57.st (vvA84) stA63.st := triFin_code (hihA hK) runA64
theorem tA66 {W : World} (hK : KA W) : TF W Tryz.f51 pA60 stA49.act stA49.st (vvA84) stA63.st := tf_seq (by kernel_rfl) (tA62 hK) (tA65 hK)
theorem tA67 {W : World} (hK : KA W) : TF W Tryz.f51 cdA51 ({ n := 62, t := PT.ofList 0 (PT.nil 8) vsA48, defers := [] }) stA46.st (vvA84) stA63.st := triFin_hds (k := 2) (L1 := stA49) (hihA hK) (by kernel_rfl) runA50 (tA66 hK)
theorem tA68 {W : World} (hK : KA W) : TC W 51 vsA48 stA46.st (vvA84) stA63.st := callT_fin Tryz.func51 bdA51 (by kernel_rfl) (n := 62) (by kernel_rfl) (by kernel_rfl) (tA67 hK)
theorem tA73 {W : World} (hK : KA W) : TX W pA58 stA44.act stA44.st .normal stA71 := by
 refine tx_region (by kernel_rfl) ?_
 refine triOps_cut (i := 0) (j := 3) (L1 := stA46) (hihA hK) (by kernel_rfl) runA47 (by kernel_rfl) ?_
 refine triOps_call (i := 3) (f := 51) (fi := #[]) (ca := #[]) (v := vvA84) (L0 := stA46) (Lc := stA63) (L1 := stA69) rfl rfl (by kernel_rfl) (by kernel_rfl) (by kernel_rfl) (by kernel_rfl) (tA68 hK) runA70 ?_
 exact triOps_end (i := 4) (L1 := stA71) (hihA hK) runA72 (by kernel_rfl)
theorem tA76 {W : World} (hK : KA W) : TX W pA85 stA71.act stA71.st .normal stA74 := triX_code (hihA hK) runA75
theorem tA77 {W : World} (hK : KA W) : TX W pA57 stA44.act stA44.st .normal stA74 := tx_seq (by kernel_rfl) (tA73 hK) (tA76 hK)
theorem tA78 {W : World} (hK : KA W) : TX W pA56 stA42.act stA42.st .normal stA74 := triX_hds (k := 1) (L1 := stA44) (hihA hK) (by kernel_rfl) runA45 (tA77 hK)
theorem tA79 {W : World} (hK : KA W) : TX W pA55 stA42.act stA42.st .normal stA74 := tx_through (by kernel_rfl) (by kernel_rfl) (tA78 hK)
theorem tA82 {W : World} (hK : KA W) : TX W pA86 stA74.act stA74.st .normal stA80 := triX_code (hihA hK) runA81
theorem tA83 {W : World} (hK : KA W) : TX W pA54 stA42.act stA42.st .normal stA80 := tx_seq (by kernel_rfl) (tA79 hK) (tA82 hK)
theorem tA84 {W : World} (hK : KA W) : TX W pA53 stA40.act stA40.st .normal stA80 := triX_hds (k := 2) (L1 := stA42) (hihA hK) (by kernel_rfl) runA43 (tA83 hK)
theorem tA87 {W : World} (hK : KA W) : TX W pA53 stA80.act stA80.st (.exit 0) stA85 := triX_code (hihA hK) runA86
theorem tA88 {W : World} (hK : KA W) : TX W pA52 stA40.act stA40.st (.exit 0) stA85 := tx_loop (m := 1) (by kernel_rfl) rfl (.next (tA84 hK) (.last (tA87 hK)))
theorem tA89 {W : World} (hK : KA W) : TX W pA51 stA40.act stA40.st .normal stA85 := tx_block (by kernel_rfl) (tA88 hK)
theorem tA90 {W : World} (hK : KA W) : TX W pA50 stA38.act stA38.st .normal stA85 := triX_hds (k := 1) (L1 := stA40) (hihA hK) (by kernel_rfl) runA41 (tA89 hK)
theorem tA93 {W : World} (hK : KA W) : TF W Tryz.f42 pA87 stA85.act stA85.st (vvA93) stA91.st := triFin_code (hihA hK) runA92
theorem tA94 {W : World} (hK : KA W) : TF W Tryz.f42 pA49 stA38.act stA38.st (vvA93) stA91.st := tf_seq (by kernel_rfl) (tA90 hK) (tA93 hK)
theorem tA95 {W : World} (hK : KA W) : TF W Tryz.f42 cdA42 ({ n := 89, t := PT.ofList 0 (PT.nil 8) vsA37, defers := [] }) stA35.st (vvA93) stA91.st := triFin_hds (k := 7) (L1 := stA38) (hihA hK) (by kernel_rfl) runA39 (tA94 hK)
theorem tA96 {W : World} (hK : KA W) : TC W 42 vsA37 stA35.st (vvA93) stA91.st := callT_fin Tryz.func42 bdA42 (by kernel_rfl) (n := 89) (by kernel_rfl) (by kernel_rfl) (tA95 hK)
theorem tA101 {W : World} (hK : KA W) : TX W pA40 stA33.act stA33.st .normal stA99 := by
 refine tx_region (by kernel_rfl) ?_
 refine triOps_cut (i := 0) (j := 3) (L1 := stA35) (hihA hK) (by kernel_rfl) runA36 (by kernel_rfl) ?_
 refine triOps_call (i := 3) (f := 42) (fi := #[]) (ca := #[]) (v := vvA93) (L0 := stA35) (Lc := stA91) (L1 := stA97) rfl rfl (by kernel_rfl) (by kernel_rfl) (by kernel_rfl) (by kernel_rfl) (tA96 hK) runA98 ?_
 exact triOps_end (i := 4) (L1 := stA99) (hihA hK) runA100 (by kernel_rfl)
theorem tA104 {W : World} (hK : KA W) : TX W pA94 stA99.act stA99.st .normal stA102 := triX_code (hihA hK) runA103
theorem tA105 {W : World} (hK : KA W) : TX W pA39 stA33.act stA33.st .normal stA102 := tx_seq (by kernel_rfl) (tA101 hK) (tA104 hK)
theorem tA106 {W : World} (hK : KA W) : TX W pA38 stA31.act stA31.st .normal stA102 := triX_hds (k := 1) (L1 := stA33) (hihA hK) (by kernel_rfl) runA34 (tA105 hK)
theorem tA107 {W : World} (hK : KA W) : TX W pA37 stA31.act stA31.st .normal stA102 := tx_through (by kernel_rfl) (by kernel_rfl) (tA106 hK)
theorem tA110 {W : World} (hK : KA W) : TX W pA96 stA102.act stA102.st .normal stA108 := triX_code (hihA hK) runA109
theorem tA111 {W : World} (hK : KA W) : TX W pA36 stA31.act stA31.st .normal stA108 := tx_seq (by kernel_rfl) (tA107 hK) (tA110 hK)
theorem tA112 {W : World} (hK : KA W) : TX W pA35 stA29.act stA29.st .normal stA108 := triX_hds (k := 2) (L1 := stA31) (hihA hK) (by kernel_rfl) runA32 (tA111 hK)
theorem tA115 {W : World} (hK : KA W) : TX W pA35 stA108.act stA108.st (.exit 0) stA113 := triX_code (hihA hK) runA114
theorem tA116 {W : World} (hK : KA W) : TX W pA34 stA29.act stA29.st (.exit 0) stA113 := tx_loop (m := 1) (by kernel_rfl) rfl (.next (tA112 hK) (.last (tA115 hK)))
theorem tA117 {W : World} (hK : KA W) : TX W pA33 stA29.act stA29.st .normal stA113 := tx_block (by kernel_rfl) (tA116 hK)
theorem tA118 {W : World} (hK : KA W) : TX W pA32 stA27.act stA27.st .normal stA113 := triX_hds (k := 1) (L1 := stA29) (hihA hK) (by kernel_rfl) runA30 (tA117 hK)
theorem tA121 {W : World} (hK : KA W) : TF W Tryz.f33 pA97 stA113.act stA113.st (vvA98) stA119.st := triFin_code (hihA hK) runA120
theorem tA122 {W : World} (hK : KA W) : TF W Tryz.f33 pA31 stA27.act stA27.st (vvA98) stA119.st := tf_seq (by kernel_rfl) (tA118 hK) (tA121 hK)
theorem tA123 {W : World} (hK : KA W) : TF W Tryz.f33 cdA33 ({ n := 46, t := PT.ofList 0 (PT.nil 8) vsA26, defers := [] }) stA24.st (vvA98) stA119.st := triFin_hds (k := 4) (L1 := stA27) (hihA hK) (by kernel_rfl) runA28 (tA122 hK)
theorem tA124 {W : World} (hK : KA W) : TC W 33 vsA26 stA24.st (vvA98) stA119.st := callT_fin Tryz.func33 bdA33 (by kernel_rfl) (n := 46) (by kernel_rfl) (by kernel_rfl) (tA123 hK)
theorem tA129 {W : World} (hK : KA W) : TX W pA30 stA22.act stA22.st .normal stA127 := by
 refine tx_region (by kernel_rfl) ?_
 refine triOps_cut (i := 0) (j := 2) (L1 := stA24) (hihA hK) (by kernel_rfl) runA25 (by kernel_rfl) ?_
 refine triOps_call (i := 2) (f := 33) (fi := #[]) (ca := #[]) (v := vvA98) (L0 := stA24) (Lc := stA119) (L1 := stA125) rfl rfl (by kernel_rfl) (by kernel_rfl) (by kernel_rfl) (by kernel_rfl) (tA124 hK) runA126 ?_
 exact triOps_end (i := 3) (L1 := stA127) (hihA hK) runA128 (by kernel_rfl)
theorem tA132 {W : World} (hK : KA W) : TF W Tryz.f23 pA99 stA127.act stA127.st (vvA101) stA130.st := triFin_code (hihA hK) runA131
theorem tA133 {W : World} (hK : KA W) : TF W Tryz.f23 pA29 stA22.act stA22.st (vvA101) stA130.st := tf_seq (by kernel_rfl) (tA129 hK) (tA132 hK)
theorem tA134 {W : World} (hK : KA W) : TF W Tryz.f23 cdA23 ({ n := 94, t := PT.ofList 0 (PT.nil 8) vsA21, defers := [] }) stA19.st (vvA101) stA130.st := triFin_hds (k := 4) (L1 := stA22) (hihA hK) (by kernel_rfl) runA23 (tA133 hK)
theorem tA135 {W : World} (hK : KA W) : TC W 23 vsA21 stA19.st (vvA101) stA130.st := callT_fin Tryz.func23 bdA23 (by kernel_rfl) (n := 94) (by kernel_rfl) (by kernel_rfl) (tA134 hK)
theorem tA140 {W : World} (hK : KA W) : TX W pA23 stA17.act stA17.st .normal stA138 := by
 refine tx_region (by kernel_rfl) ?_
 refine triOps_cut (i := 0) (j := 3) (L1 := stA19) (hihA hK) (by kernel_rfl) runA20 (by kernel_rfl) ?_
 refine triOps_call (i := 3) (f := 23) (fi := #[]) (ca := #[]) (v := vvA101) (L0 := stA19) (Lc := stA130) (L1 := stA136) rfl rfl (by kernel_rfl) (by kernel_rfl) (by kernel_rfl) (by kernel_rfl) (tA135 hK) runA137 ?_
 exact triOps_end (i := 4) (L1 := stA138) (hihA hK) runA139 (by kernel_rfl)
theorem tA143 {W : World} (hK : KA W) : TX W pA102 stA138.act stA138.st .normal stA141 := triX_code (hihA hK) runA142
theorem tA144 {W : World} (hK : KA W) : TX W pA22 stA17.act stA17.st .normal stA141 := tx_seq (by kernel_rfl) (tA140 hK) (tA143 hK)
theorem tA145 {W : World} (hK : KA W) : TX W pA16 stA15.act stA15.st .normal stA141 := triX_hds (k := 3) (L1 := stA17) (hihA hK) (by kernel_rfl) runA18 (tA144 hK)
theorem tA146 {W : World} (hK : KA W) : TX W pA15 stA15.act stA15.st .normal stA141 := tx_through (by kernel_rfl) (by kernel_rfl) (tA145 hK)
theorem tA149 {W : World} (hK : KA W) : TX W pA107 stA141.act stA141.st .normal stA147 := triX_code (hihA hK) runA148
theorem tA150 {W : World} (hK : KA W) : TX W pA14 stA15.act stA15.st .normal stA147 := tx_seq (by kernel_rfl) (tA146 hK) (tA149 hK)
theorem tA151 {W : World} (hK : KA W) : TX W pA13 stA13.act stA13.st .normal stA147 := triX_hds (k := 2) (L1 := stA15) (hihA hK) (by kernel_rfl) runA16 (tA150 hK)
theorem tA154 {W : World} (hK : KA W) : TX W pA13 stA147.act stA147.st (.exit 0) stA152 := triX_code (hihA hK) runA153
theorem tA155 {W : World} (hK : KA W) : TX W pA12 stA13.act stA13.st (.exit 0) stA152 := tx_loop (m := 1) (by kernel_rfl) rfl (.next (tA151 hK) (.last (tA154 hK)))
theorem tA156 {W : World} (hK : KA W) : TX W pA11 stA13.act stA13.st .normal stA152 := tx_block (by kernel_rfl) (tA155 hK)
theorem tA157 {W : World} (hK : KA W) : TX W pA10 stA11.act stA11.st .normal stA152 := triX_hds (k := 1) (L1 := stA13) (hihA hK) (by kernel_rfl) runA14 (tA156 hK)
theorem tA160 {W : World} (hK : KA W) : TF W Tryz.f10 pA108 stA152.act stA152.st (vvA109) stA158.st := triFin_code (hihA hK) runA159
theorem tA161 {W : World} (hK : KA W) : TF W Tryz.f10 pA9 stA11.act stA11.st (vvA109) stA158.st := tf_seq (by kernel_rfl) (tA157 hK) (tA160 hK)
theorem tA162 {W : World} (hK : KA W) : TF W Tryz.f10 cdA10 ({ n := 82, t := PT.ofList 0 (PT.nil 8) vsA10, defers := [] }) stA8.st (vvA109) stA158.st := triFin_hds (k := 5) (L1 := stA11) (hihA hK) (by kernel_rfl) runA12 (tA161 hK)
theorem tA163 {W : World} (hK : KA W) : TC W 10 vsA10 stA8.st (vvA109) stA158.st := callT_fin Tryz.func10 bdA10 (by kernel_rfl) (n := 82) (by kernel_rfl) (by kernel_rfl) (tA162 hK)
theorem tA168 {W : World} (hK : KA W) : TX W pA6 stA6.act stA6.st .normal stA166 := by
 refine tx_region (by kernel_rfl) ?_
 refine triOps_cut (i := 0) (j := 1) (L1 := stA8) (hihA hK) (by kernel_rfl) runA9 (by kernel_rfl) ?_
 refine triOps_call (i := 1) (f := 10) (fi := #[]) (ca := #[]) (v := vvA109) (L0 := stA8) (Lc := stA158) (L1 := stA164) rfl rfl (by kernel_rfl) (by kernel_rfl) (by kernel_rfl) (by kernel_rfl) (tA163 hK) runA165 ?_
 exact triOps_end (i := 2) (L1 := stA166) (hihA hK) runA167 (by kernel_rfl)
theorem tA171 {W : World} (hK : KA W) : TF W Tryz.f13 pA110 stA166.act stA166.st (vvA111) stA169.st := triFin_code (hihA hK) runA170
theorem tA172 {W : World} (hK : KA W) : TF W Tryz.f13 pA5 stA6.act stA6.st (vvA111) stA169.st := tf_seq (by kernel_rfl) (tA168 hK) (tA171 hK)
theorem tA173 {W : World} (hK : KA W) : TF W Tryz.f13 cdA13 ({ n := 18, t := PT.ofList 0 (PT.nil 8) vsA5, defers := [] }) stA3.st (vvA111) stA169.st := triFin_hds (k := 1) (L1 := stA6) (hihA hK) (by kernel_rfl) runA7 (tA172 hK)
theorem tA174 {W : World} (hK : KA W) : TC W 13 vsA5 stA3.st (vvA111) stA169.st := callT_fin Tryz.func13 bdA13 (by kernel_rfl) (n := 18) (by kernel_rfl) (by kernel_rfl) (tA173 hK)
theorem tA179 {W : World} (hK : KA W) : TX W pA1 stA1.act stA1.st .normal stA177 := by
 refine tx_region (by kernel_rfl) ?_
 refine triOps_cut (i := 0) (j := 1) (L1 := stA3) (hihA hK) (by kernel_rfl) runA4 (by kernel_rfl) ?_
 refine triOps_call (i := 1) (f := 13) (fi := #[]) (ca := #[]) (v := vvA111) (L0 := stA3) (Lc := stA169) (L1 := stA175) rfl rfl (by kernel_rfl) (by kernel_rfl) (by kernel_rfl) (by kernel_rfl) (tA174 hK) runA176 ?_
 exact triOps_end (i := 2) (L1 := stA177) (hihA hK) runA178 (by kernel_rfl)
theorem tA243 {W : World} (hK : KA W) : TX W pA64 stA239.act stA239.st (.exit 0) stA241 := triX_code (hihA hK) runA242
theorem tA244 {W : World} (hK : KA W) : TX W pA63 stA235.act stA235.st (.exit 0) stA241 := tx_loop (m := 3) (by kernel_rfl) rfl (rounds_run (hihA hK) runA238 (rounds_run (hihA hK) runA240 (.last (tA243 hK))))
theorem tA245 {W : World} (hK : KA W) : TX W pA62 stA235.act stA235.st .normal stA241 := tx_block (by kernel_rfl) (tA244 hK)
theorem tA246 {W : World} (hK : KA W) : TX W pA61 stA233.act stA233.st .normal stA241 := triX_hds (k := 1) (L1 := stA235) (hihA hK) (by kernel_rfl) runA236 (tA245 hK)
theorem tA249 {W : World} (hK : KA W) : TF W Tryz.f51 pA78 stA241.act stA241.st (vvA163) stA247.st := triFin_code (hihA hK) runA248
theorem tA250 {W : World} (hK : KA W) : TF W Tryz.f51 pA60 stA233.act stA233.st (vvA163) stA247.st := tf_seq (by kernel_rfl) (tA246 hK) (tA249 hK)
theorem tA251 {W : World} (hK : KA W) : TF W Tryz.f51 cdA51 ({ n := 62, t := PT.ofList 0 (PT.nil 8) vsA232, defers := [] }) stA230.st (vvA163) stA247.st := triFin_hds (k := 2) (L1 := stA233) (hihA hK) (by kernel_rfl) runA234 (tA250 hK)
theorem tA252 {W : World} (hK : KA W) : TC W 51 vsA232 stA230.st (vvA163) stA247.st := callT_fin Tryz.func51 bdA51 (by kernel_rfl) (n := 62) (by kernel_rfl) (by kernel_rfl) (tA251 hK)
theorem tA257 {W : World} (hK : KA W) : TX W pA58 stA228.act stA228.st .normal stA255 := by
 refine tx_region (by kernel_rfl) ?_
 refine triOps_cut (i := 0) (j := 3) (L1 := stA230) (hihA hK) (by kernel_rfl) runA231 (by kernel_rfl) ?_
 refine triOps_call (i := 3) (f := 51) (fi := #[]) (ca := #[]) (v := vvA163) (L0 := stA230) (Lc := stA247) (L1 := stA253) rfl rfl (by kernel_rfl) (by kernel_rfl) (by kernel_rfl) (by kernel_rfl) (tA252 hK) runA254 ?_
 exact triOps_end (i := 4) (L1 := stA255) (hihA hK) runA256 (by kernel_rfl)
theorem tA260 {W : World} (hK : KA W) : TX W pA85 stA255.act stA255.st .normal stA258 := triX_code (hihA hK) runA259
theorem tA261 {W : World} (hK : KA W) : TX W pA57 stA228.act stA228.st .normal stA258 := tx_seq (by kernel_rfl) (tA257 hK) (tA260 hK)
theorem tA262 {W : World} (hK : KA W) : TX W pA56 stA226.act stA226.st .normal stA258 := triX_hds (k := 1) (L1 := stA228) (hihA hK) (by kernel_rfl) runA229 (tA261 hK)
theorem tA263 {W : World} (hK : KA W) : TX W pA55 stA226.act stA226.st .normal stA258 := tx_through (by kernel_rfl) (by kernel_rfl) (tA262 hK)
theorem tA266 {W : World} (hK : KA W) : TX W pA86 stA258.act stA258.st .normal stA264 := triX_code (hihA hK) runA265
theorem tA267 {W : World} (hK : KA W) : TX W pA54 stA226.act stA226.st .normal stA264 := tx_seq (by kernel_rfl) (tA263 hK) (tA266 hK)
theorem tA268 {W : World} (hK : KA W) : TX W pA53 stA224.act stA224.st .normal stA264 := triX_hds (k := 2) (L1 := stA226) (hihA hK) (by kernel_rfl) runA227 (tA267 hK)
theorem tA271 {W : World} (hK : KA W) : TX W pA53 stA264.act stA264.st (.exit 0) stA269 := triX_code (hihA hK) runA270
theorem tA272 {W : World} (hK : KA W) : TX W pA52 stA224.act stA224.st (.exit 0) stA269 := tx_loop (m := 1) (by kernel_rfl) rfl (.next (tA268 hK) (.last (tA271 hK)))
theorem tA273 {W : World} (hK : KA W) : TX W pA51 stA224.act stA224.st .normal stA269 := tx_block (by kernel_rfl) (tA272 hK)
theorem tA274 {W : World} (hK : KA W) : TX W pA50 stA222.act stA222.st .normal stA269 := triX_hds (k := 1) (L1 := stA224) (hihA hK) (by kernel_rfl) runA225 (tA273 hK)
theorem tA277 {W : World} (hK : KA W) : TF W Tryz.f42 pA87 stA269.act stA269.st (vvA169) stA275.st := triFin_code (hihA hK) runA276
theorem tA278 {W : World} (hK : KA W) : TF W Tryz.f42 pA49 stA222.act stA222.st (vvA169) stA275.st := tf_seq (by kernel_rfl) (tA274 hK) (tA277 hK)
theorem tA279 {W : World} (hK : KA W) : TF W Tryz.f42 cdA42 ({ n := 89, t := PT.ofList 0 (PT.nil 8) vsA221, defers := [] }) stA219.st (vvA169) stA275.st := triFin_hds (k := 7) (L1 := stA222) (hihA hK) (by kernel_rfl) runA223 (tA278 hK)
theorem tA280 {W : World} (hK : KA W) : TC W 42 vsA221 stA219.st (vvA169) stA275.st := callT_fin Tryz.func42 bdA42 (by kernel_rfl) (n := 89) (by kernel_rfl) (by kernel_rfl) (tA279 hK)
theorem tA285 {W : World} (hK : KA W) : TX W pA40 stA217.act stA217.st .normal stA283 := by
 refine tx_region (by kernel_rfl) ?_
 refine triOps_cut (i := 0) (j := 3) (L1 := stA219) (hihA hK) (by kernel_rfl) runA220 (by kernel_rfl) ?_
 refine triOps_call (i := 3) (f := 42) (fi := #[]) (ca := #[]) (v := vvA169) (L0 := stA219) (Lc := stA275) (L1 := stA281) rfl rfl (by kernel_rfl) (by kernel_rfl) (by kernel_rfl) (by kernel_rfl) (tA280 hK) runA282 ?_
 exact triOps_end (i := 4) (L1 := stA283) (hihA hK) runA284 (by kernel_rfl)
theorem tA288 {W : World} (hK : KA W) : TX W pA94 stA283.act stA283.st .normal stA286 := triX_code (hihA hK) runA287
theorem tA289 {W : World} (hK : KA W) : TX W pA39 stA217.act stA217.st .normal stA286 := tx_seq (by kernel_rfl) (tA285 hK) (tA288 hK)
theorem tA290 {W : World} (hK : KA W) : TX W pA38 stA215.act stA215.st .normal stA286 := triX_hds (k := 1) (L1 := stA217) (hihA hK) (by kernel_rfl) runA218 (tA289 hK)
theorem tA291 {W : World} (hK : KA W) : TX W pA37 stA215.act stA215.st .normal stA286 := tx_through (by kernel_rfl) (by kernel_rfl) (tA290 hK)
theorem tA294 {W : World} (hK : KA W) : TX W pA96 stA286.act stA286.st .normal stA292 := triX_code (hihA hK) runA293
theorem tA295 {W : World} (hK : KA W) : TX W pA36 stA215.act stA215.st .normal stA292 := tx_seq (by kernel_rfl) (tA291 hK) (tA294 hK)
theorem tA296 {W : World} (hK : KA W) : TX W pA35 stA213.act stA213.st .normal stA292 := triX_hds (k := 2) (L1 := stA215) (hihA hK) (by kernel_rfl) runA216 (tA295 hK)
theorem tA299 {W : World} (hK : KA W) : TX W pA35 stA292.act stA292.st (.exit 0) stA297 := triX_code (hihA hK) runA298
theorem tA300 {W : World} (hK : KA W) : TX W pA34 stA213.act stA213.st (.exit 0) stA297 := tx_loop (m := 1) (by kernel_rfl) rfl (.next (tA296 hK) (.last (tA299 hK)))
theorem tA301 {W : World} (hK : KA W) : TX W pA33 stA213.act stA213.st .normal stA297 := tx_block (by kernel_rfl) (tA300 hK)
theorem tA302 {W : World} (hK : KA W) : TX W pA32 stA211.act stA211.st .normal stA297 := triX_hds (k := 1) (L1 := stA213) (hihA hK) (by kernel_rfl) runA214 (tA301 hK)
theorem tA305 {W : World} (hK : KA W) : TF W Tryz.f33 pA97 stA297.act stA297.st (vvA171) stA303.st := triFin_code (hihA hK) runA304
theorem tA306 {W : World} (hK : KA W) : TF W Tryz.f33 pA31 stA211.act stA211.st (vvA171) stA303.st := tf_seq (by kernel_rfl) (tA302 hK) (tA305 hK)
theorem tA307 {W : World} (hK : KA W) : TF W Tryz.f33 cdA33 ({ n := 46, t := PT.ofList 0 (PT.nil 8) vsA210, defers := [] }) stA208.st (vvA171) stA303.st := triFin_hds (k := 4) (L1 := stA211) (hihA hK) (by kernel_rfl) runA212 (tA306 hK)
theorem tA308 {W : World} (hK : KA W) : TC W 33 vsA210 stA208.st (vvA171) stA303.st := callT_fin Tryz.func33 bdA33 (by kernel_rfl) (n := 46) (by kernel_rfl) (by kernel_rfl) (tA307 hK)
theorem tA313 {W : World} (hK : KA W) : TX W pA30 stA206.act stA206.st .normal stA311 := by
 refine tx_region (by kernel_rfl) ?_
 refine triOps_cut (i := 0) (j := 2) (L1 := stA208) (hihA hK) (by kernel_rfl) runA209 (by kernel_rfl) ?_
 refine triOps_call (i := 2) (f := 33) (fi := #[]) (ca := #[]) (v := vvA171) (L0 := stA208) (Lc := stA303) (L1 := stA309) rfl rfl (by kernel_rfl) (by kernel_rfl) (by kernel_rfl) (by kernel_rfl) (tA308 hK) runA310 ?_
 exact triOps_end (i := 3) (L1 := stA311) (hihA hK) runA312 (by kernel_rfl)
theorem tA316 {W : World} (hK : KA W) : TF W Tryz.f23 pA99 stA311.act stA311.st (vvA173) stA314.st := triFin_code (hihA hK) runA315
theorem tA317 {W : World} (hK : KA W) : TF W Tryz.f23 pA29 stA206.act stA206.st (vvA173) stA314.st := tf_seq (by kernel_rfl) (tA313 hK) (tA316 hK)
theorem tA318 {W : World} (hK : KA W) : TF W Tryz.f23 cdA23 ({ n := 94, t := PT.ofList 0 (PT.nil 8) vsA205, defers := [] }) stA203.st (vvA173) stA314.st := triFin_hds (k := 4) (L1 := stA206) (hihA hK) (by kernel_rfl) runA207 (tA317 hK)
theorem tA319 {W : World} (hK : KA W) : TC W 23 vsA205 stA203.st (vvA173) stA314.st := callT_fin Tryz.func23 bdA23 (by kernel_rfl) (n := 94) (by kernel_rfl) (by kernel_rfl) (tA318 hK)
theorem tA324 {W : World} (hK : KA W) : TX W pA23 stA201.act stA201.st .normal stA322 := by
 refine tx_region (by kernel_rfl) ?_
 refine triOps_cut (i := 0) (j := 3) (L1 := stA203) (hihA hK) (by kernel_rfl) runA204 (by kernel_rfl) ?_
 refine triOps_call (i := 3) (f := 23) (fi := #[]) (ca := #[]) (v := vvA173) (L0 := stA203) (Lc := stA314) (L1 := stA320) rfl rfl (by kernel_rfl) (by kernel_rfl) (by kernel_rfl) (by kernel_rfl) (tA319 hK) runA321 ?_
 exact triOps_end (i := 4) (L1 := stA322) (hihA hK) runA323 (by kernel_rfl)
theorem tA327 {W : World} (hK : KA W) : TX W pA102 stA322.act stA322.st .normal stA325 := triX_code (hihA hK) runA326
theorem tA328 {W : World} (hK : KA W) : TX W pA22 stA201.act stA201.st .normal stA325 := tx_seq (by kernel_rfl) (tA324 hK) (tA327 hK)
theorem tA329 {W : World} (hK : KA W) : TX W pA16 stA199.act stA199.st .normal stA325 := triX_hds (k := 3) (L1 := stA201) (hihA hK) (by kernel_rfl) runA202 (tA328 hK)
theorem tA330 {W : World} (hK : KA W) : TX W pA15 stA199.act stA199.st .normal stA325 := tx_through (by kernel_rfl) (by kernel_rfl) (tA329 hK)
theorem tA333 {W : World} (hK : KA W) : TX W pA107 stA325.act stA325.st .normal stA331 := triX_code (hihA hK) runA332
theorem tA334 {W : World} (hK : KA W) : TX W pA14 stA199.act stA199.st .normal stA331 := tx_seq (by kernel_rfl) (tA330 hK) (tA333 hK)
theorem tA335 {W : World} (hK : KA W) : TX W pA13 stA197.act stA197.st .normal stA331 := triX_hds (k := 2) (L1 := stA199) (hihA hK) (by kernel_rfl) runA200 (tA334 hK)
theorem tA338 {W : World} (hK : KA W) : TX W pA13 stA331.act stA331.st (.exit 0) stA336 := triX_code (hihA hK) runA337
theorem tA339 {W : World} (hK : KA W) : TX W pA12 stA197.act stA197.st (.exit 0) stA336 := tx_loop (m := 1) (by kernel_rfl) rfl (.next (tA335 hK) (.last (tA338 hK)))
theorem tA340 {W : World} (hK : KA W) : TX W pA11 stA197.act stA197.st .normal stA336 := tx_block (by kernel_rfl) (tA339 hK)
theorem tA341 {W : World} (hK : KA W) : TX W pA10 stA195.act stA195.st .normal stA336 := triX_hds (k := 1) (L1 := stA197) (hihA hK) (by kernel_rfl) runA198 (tA340 hK)
theorem tA344 {W : World} (hK : KA W) : TF W Tryz.f10 pA108 stA336.act stA336.st (vvA179) stA342.st := triFin_code (hihA hK) runA343
theorem tA345 {W : World} (hK : KA W) : TF W Tryz.f10 pA9 stA195.act stA195.st (vvA179) stA342.st := tf_seq (by kernel_rfl) (tA341 hK) (tA344 hK)
theorem tA346 {W : World} (hK : KA W) : TF W Tryz.f10 cdA10 ({ n := 82, t := PT.ofList 0 (PT.nil 8) vsA194, defers := [] }) stA192.st (vvA179) stA342.st := triFin_hds (k := 5) (L1 := stA195) (hihA hK) (by kernel_rfl) runA196 (tA345 hK)
theorem tA347 {W : World} (hK : KA W) : TC W 10 vsA194 stA192.st (vvA179) stA342.st := callT_fin Tryz.func10 bdA10 (by kernel_rfl) (n := 82) (by kernel_rfl) (by kernel_rfl) (tA346 hK)
theorem tA352 {W : World} (hK : KA W) : TX W pA131 stA190.act stA190.st .normal stA350 := by
 refine tx_region (by kernel_rfl) ?_
 refine triOps_cut (i := 0) (j := 1) (L1 := stA192) (hihA hK) (by kernel_rfl) runA193 (by kernel_rfl) ?_
 refine triOps_call (i := 1) (f := 10) (fi := #[]) (ca := #[]) (v := vvA179) (L0 := stA192) (Lc := stA342) (L1 := stA348) rfl rfl (by kernel_rfl) (by kernel_rfl) (by kernel_rfl) (by kernel_rfl) (tA347 hK) runA349 ?_
 exact triOps_end (i := 2) (L1 := stA350) (hihA hK) runA351 (by kernel_rfl)
theorem tA355 {W : World} (hK : KA W) : TF W Tryz.f5 pA181 stA350.act stA350.st (vvA183) stA353.st := triFin_code (hihA hK) runA354
theorem tA356 {W : World} (hK : KA W) : TF W Tryz.f5 pA130 stA190.act stA190.st (vvA183) stA353.st := tf_seq (by kernel_rfl) (tA352 hK) (tA355 hK)
theorem tA357 {W : World} (hK : KA W) : TF W Tryz.f5 cdA5 ({ n := 53, t := PT.ofList 0 (PT.nil 8) vsA189, defers := [] }) stA187.st (vvA183) stA353.st := triFin_hds (k := 1) (L1 := stA190) (hihA hK) (by kernel_rfl) runA191 (tA356 hK)
theorem tA358 {W : World} (hK : KA W) : TC W 5 vsA189 stA187.st (vvA183) stA353.st := callT_fin Tryz.func5 bdA5 (by kernel_rfl) (n := 53) (by kernel_rfl) (by kernel_rfl) (tA357 hK)
theorem tA363 {W : World} (hK : KA W) : TX W pA126 stA185.act stA185.st .normal stA361 := by
 refine tx_region (by kernel_rfl) ?_
 refine triOps_cut (i := 0) (j := 2) (L1 := stA187) (hihA hK) (by kernel_rfl) runA188 (by kernel_rfl) ?_
 refine triOps_call (i := 2) (f := 5) (fi := #[]) (ca := #[]) (v := vvA183) (L0 := stA187) (Lc := stA353) (L1 := stA359) rfl rfl (by kernel_rfl) (by kernel_rfl) (by kernel_rfl) (by kernel_rfl) (tA358 hK) runA360 ?_
 exact triOps_end (i := 3) (L1 := stA361) (hihA hK) runA362 (by kernel_rfl)
theorem tA366 {W : World} (hK : KA W) : TF W Tryz.f19 pA184 stA361.act stA361.st (vt) stA364.st := triFin_code (hihA hK) runA365
theorem tA367 {W : World} (hK : KA W) : TF W Tryz.f19 pA125 stA185.act stA185.st (vt) stA364.st := tf_seq (by kernel_rfl) (tA363 hK) (tA366 hK)
theorem tA368 {W : World} (hK : KA W) : TF W Tryz.f19 cdA19 ({ n := 20, t := PT.ofList 0 (PT.nil 8) vsA184, defers := [] }) stA182.st (vt) stA364.st := triFin_hds (k := 1) (L1 := stA185) (hihA hK) (by kernel_rfl) runA186 (tA367 hK)
theorem tA369 {W : World} (hK : KA W) : TC W 19 vsA184 stA182.st (vt) stA364.st := callT_fin Tryz.func19 bdA19 (by kernel_rfl) (n := 20) (by kernel_rfl) (by kernel_rfl) (tA368 hK)
theorem tA374 {W : World} (hK : KA W) : TX W pA118 stA180.act stA180.st .normal stA372 := by
 refine tx_region (by kernel_rfl) ?_
 refine triOps_cut (i := 0) (j := 22) (L1 := stA182) (hihA hK) (by kernel_rfl) runA183 (by kernel_rfl) ?_
 refine triOps_call (i := 22) (f := 19) (fi := #[]) (ca := #[]) (v := vt) (L0 := stA182) (Lc := stA364) (L1 := stA370) rfl rfl (by kernel_rfl) (by kernel_rfl) (by kernel_rfl) (by kernel_rfl) (tA369 hK) runA371 ?_
 exact triOps_end (i := 23) (L1 := stA372) (hihA hK) runA373 (by kernel_rfl)
theorem tA377 {W : World} (hK : KA W) : TF W Tryz.f6 pA185 stA372.act stA372.st (vt) stA375.st := triFin_code (hihA hK) runA376
theorem tA378 {W : World} (hK : KA W) : TF W Tryz.f6 pA117 stA180.act stA180.st (vt) stA375.st := tf_seq (by kernel_rfl) (tA374 hK) (tA377 hK)
theorem tA379 {W : World} (hK : KA W) : TF W Tryz.f6 pA112 stA177.act stA177.st (vt) stA375.st := triFin_hds (k := 1) (L1 := stA180) (hihA hK) (by kernel_rfl) runA181 (tA378 hK)
theorem tA380 {W : World} (hK : KA W) : TF W Tryz.f6 pA0 stA1.act stA1.st (vt) stA375.st := tf_seq (by kernel_rfl) (tA179 hK) (tA379 hK)
theorem tA381 {W : World} (hK : KA W) : TF W Tryz.f6 cdA6 ({ n := 39, t := PT.ofList 0 (PT.nil 8) vsA0, defers := [] }) start0 (vt) stA375.st := triFin_hds (k := 1) (L1 := stA1) (hihA hK) (by kernel_rfl) runA2 (tA380 hK)
theorem tA382 {W : World} (hK : KA W) : TC W 6 vsA0 start0 (vt) stA375.st := callT_fin Tryz.func6 bdA6 (by kernel_rfl) (n := 39) (by kernel_rfl) (by kernel_rfl) (tA381 hK)
noncomputable def of0 : List Value := (dc Tryz.prog 9 109 Rows.laid_tactus_sign_classes).getD []
noncomputable def of1 : List Value := (dc Tryz.prog 9 65 Rows.laid_tactus_item_half).getD []
noncomputable def of2 : List Value := (dc Tryz.prog 9 154 Rows.laid_tactus_sign_uses).getD []
theorem listed_is : listed = [(0, of0), (1, of1), (2, of2)] := by kernel_rfl
theorem listed_eq : ∀ g l, (g, l) ∈ listed → (g = 0 ∧ l = of0) ∨ (g = 1 ∧ l = of1) ∨ (g = 2 ∧ l = of2) := by
 rw [listed_is]
 intro g l h
 simpa only [List.mem_cons, Prod.mk.injEq, List.not_mem_nil, or_false] using h
def Laids (laid : List (String × DataW Unit)) : Prop := ("tactus/sign.classes", Rows.laid_tactus_sign_classes) ∈ laid ∧ ("tactus/item.half", Rows.laid_tactus_item_half) ∈ laid ∧ ("tactus/sign.uses", Rows.laid_tactus_sign_uses) ∈ laid
def Met (W : World) : Prop := ∀ g l, (g, l) ∈ listed → ∃ (arr : Array Value) (e : TypeId) (fz : Nat × Nat), W.heap[g]? = some (.cells arr e fz) ∧ arr.toList = l
theorem listed_met {laid : List (String × DataW Unit)} (hm : Laids laid) {W : World} (h : laidMet Tryz.prog laid W) : Met W := by
 obtain ⟨ps, hv, _⟩ := h
 obtain ⟨m0, m1, m2⟩ := hm
 intro g l hgl
 rcases listed_eq g l hgl with ⟨rfl, rfl⟩ | ⟨rfl, rfl⟩ | ⟨rfl, rfl⟩
 ·exact laid_cells laid ps hv _ _ m0 0 109 9 _ (by kernel_rfl) (by kernel_rfl) (by kernel_rfl)
 ·exact laid_cells laid ps hv _ _ m1 1 65 9 _ (by kernel_rfl) (by kernel_rfl) (by kernel_rfl)
 ·exact laid_cells laid ps hv _ _ m2 2 154 9 _ (by kernel_rfl) (by kernel_rfl) (by kernel_rfl)
theorem listed_flat : ∀ g l, (g, l) ∈ listed → ∀ v ∈ l, flatV flatN v = true := by
 have : listed.all (fun x => x.2.all (flatV flatN)) = true := by kernel_rfl
 intro g l hgl v hv
 exact List.all_eq_true.1 (List.all_eq_true.1 this (g, l) hgl) v hv
theorem size_le {W : World} (h : Met W) : Tryz.prog.globals.size ≤ W.heap.size := by
 have h5 : (2, of2) ∈ listed := by
  rw [listed_is]; simp
 obtain ⟨arr, e, fz, h1, _⟩ := h 2 _ h5
 have h2 := (Array.getElem?_eq_some_iff.1 h1).1
 have h3 : Tryz.prog.globals.size = 3 := by kernel_rfl
 omega
theorem met_later {W W1 : World} (hk : Kept W W1) (h : Met W) : Met W1 := by
 intro g l hgl
 obtain ⟨arr, e, fz, h1, h2⟩ := h g l hgl
 exact ⟨arr, e, fz, by rw [hk.old g (Array.getElem?_eq_some_iff.1 h1).1]; exact h1, h2⟩
theorem known_A {W : World} (_ : Met W) : KnownSound Tryz.prog (kk noCall) W := ⟨ext_sound _, fun _ _ _ _ h => by cases h⟩
theorem true_A {W : World} (h : Met W) : Calls Tryz.prog 6 #[] W fun e w => e = .returned (.bool true) ∧ Kept W w :=
 call_true Tryz.func6 bdA6 (by kernel_rfl) (tA382 (known_A h)) (size_le h) h listed_flat
end Go.Proofs.YtblhfojaiipboaaGreatDoor

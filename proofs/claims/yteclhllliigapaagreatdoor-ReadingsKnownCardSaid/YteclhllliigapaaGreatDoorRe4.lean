/-
  The law's own examples hold: ReadingsKnown returns true in every world that holds the listed variables.
-/
import Derived.Test.YteclhllliigapaaGreatDoorReR0
import Derived.Test.YteclhllliigapaaGreatDoorReR1
import Derived.Test.YteclhllliigapaaGreatDoorReR2
import Derived.Test.YteclhllliigapaaGreatDoorReR3
import Derived.Test.YteclhllliigapaaGreatDoorReR4
import Derived.Test.YteclhllliigapaaGreatDoorReR5
import Derived.Test.YteclhllliigapaaGreatDoorReR6
import Derived.Test.YteclhllliigapaaGreatDoorReR7
import Derived.Test.YteclhllliigapaaGreatDoorReR8
import Derived.Test.YteclhllliigapaaGreatDoorReR9
import Derived.Test.YteclhllliigapaaGreatDoorReR10
import Derived.Test.YteclhllliigapaaGreatDoorReR11
import Derived.Test.YteclhllliigapaaGreatDoorReR12
import Derived.Test.YteclhllliigapaaGreatDoorReR13
import Derived.Test.YteclhllliigapaaGreatDoorReR14
import Derived.Test.YteclhllliigapaaGreatDoorReR15
import Derived.Test.YteclhllliigapaaGreatDoorReR16
import Derived.Test.YteclhllliigapaaGreatDoorReR17
import Derived.Test.YteclhllliigapaaGreatDoorReR18
import Derived.Test.YteclhllliigapaaGreatDoorReR19
import Derived.Test.YteclhllliigapaaGreatDoorReR20
import Derived.Test.YteclhllliigapaaGreatDoorReR21
import Derived.Test.YteclhllliigapaaGreatDoorReR22
import Derived.Test.YteclhllliigapaaGreatDoorReR23
import Derived.Test.YteclhllliigapaaGreatDoorReR24
import Derived.Test.YteclhllliigapaaGreatDoorReR25
import Derived.Test.YteclhllliigapaaGreatDoorReR26
import Derived.Test.YteclhllliigapaaGreatDoorReR27
import Derived.Test.YteclhllliigapaaGreatDoorReR28
import Derived.Test.YteclhllliigapaaGreatDoorReR29
import Derived.Test.YteclhllliigapaaGreatDoorReR30
import Derived.Test.YteclhllliigapaaGreatDoorReR31
import Derived.Test.YteclhllliigapaaGreatDoorReR32
namespace Go.Proofs.YteclhllliigapaaGreatDoor
open Go.Cm

set_option maxRecDepth 100000
theorem tF5 {W : World} (hK : KF W) : TF W Tryz.f18 pF20 stF1.act stF1.st (vt) stF3.st := triFin_code (hihF hK) runF4
theorem tF6 {W : World} (hK : KF W) : TF W Tryz.f18 cdF18 ({ n := 94, t := PT.ofList 0 (PT.nil 8) vsF0, defers := [] }) start0 (vt) stF3.st := triFin_hds (k := 6) (L1 := stF1) (hihF hK) (by kernel_rfl) runF2 (tF5 hK)
theorem tF7 {W : World} (hK : KF W) : TC W 18 vsF0 start0 (vt) stF3.st := callT_fin Tryz.func18 bdF18 (by kernel_rfl) (n := 94) (by kernel_rfl) (by kernel_rfl) (tF6 hK)
theorem tA68 {W : World} (hK : KA W) : TF W Tryz.f55 pA73 stA64.act stA64.st (vvA79) stA66.st := triFin_code (hihA hK) runA67
theorem tA69 {W : World} (hK : KA W) : TF W Tryz.f55 cdA55 ({ n := 62, t := PT.ofList 0 (PT.nil 8) vsA63, defers := [] }) stA61.st (vvA79) stA66.st := triFin_hds (k := 3) (L1 := stA64) (hihA hK) (by kernel_rfl) runA65 (tA68 hK)
theorem tA70 {W : World} (hK : KA W) : TC W 55 vsA63 stA61.st (vvA79) stA66.st := callT_fin Tryz.func55 bdA55 (by kernel_rfl) (n := 62) (by kernel_rfl) (by kernel_rfl) (tA69 hK)
theorem tA75 {W : World} (hK : KA W) : TX W pA62 stA59.act stA59.st .normal stA73 := by
  refine tx_region (by kernel_rfl) ?_
  refine triOps_cut (i := 0) (j := 3) (L1 := stA61) (hihA hK) (by kernel_rfl) runA62 (by kernel_rfl) ?_
  refine triOps_call (i := 3) (f := 55) (fi := #[]) (ca := #[]) (v := vvA79) (L0 := stA61) (Lc := stA66) (L1 := stA71) rfl rfl (by kernel_rfl) (by kernel_rfl) (by kernel_rfl) (by kernel_rfl) (tA70 hK) runA72 ?_
  exact triOps_end (i := 4) (L1 := stA73) (hihA hK) runA74 (by kernel_rfl)
theorem tA78 {W : World} (hK : KA W) : TX W pA80 stA73.act stA73.st .normal stA76 := triX_code (hihA hK) runA77
theorem tA79 {W : World} (hK : KA W) : TX W pA61 stA59.act stA59.st .normal stA76 := tx_seq (by kernel_rfl) (tA75 hK) (tA78 hK)
theorem tA80 {W : World} (hK : KA W) : TX W pA60 stA57.act stA57.st .normal stA76 := triX_hds (k := 1) (L1 := stA59) (hihA hK) (by kernel_rfl) runA60 (tA79 hK)
theorem tA81 {W : World} (hK : KA W) : TX W pA59 stA57.act stA57.st .normal stA76 := tx_through (by kernel_rfl) (by kernel_rfl) (tA80 hK)
theorem tA84 {W : World} (hK : KA W) : TX W pA81 stA76.act stA76.st .normal stA82 := triX_code (hihA hK) runA83
theorem tA85 {W : World} (hK : KA W) : TX W pA58 stA57.act stA57.st .normal stA82 := tx_seq (by kernel_rfl) (tA81 hK) (tA84 hK)
theorem tA86 {W : World} (hK : KA W) : TX W pA57 stA55.act stA55.st .normal stA82 := triX_hds (k := 2) (L1 := stA57) (hihA hK) (by kernel_rfl) runA58 (tA85 hK)
theorem tA89 {W : World} (hK : KA W) : TX W pA57 stA82.act stA82.st (.exit 0) stA87 := triX_code (hihA hK) runA88
theorem tA90 {W : World} (hK : KA W) : TX W pA56 stA55.act stA55.st (.exit 0) stA87 := tx_loop (m := 1) (by kernel_rfl) rfl (.next (tA86 hK) (.last (tA89 hK)))
theorem tA91 {W : World} (hK : KA W) : TX W pA55 stA55.act stA55.st .normal stA87 := tx_block (by kernel_rfl) (tA90 hK)
theorem tA92 {W : World} (hK : KA W) : TX W pA54 stA53.act stA53.st .normal stA87 := triX_hds (k := 1) (L1 := stA55) (hihA hK) (by kernel_rfl) runA56 (tA91 hK)
theorem tA95 {W : World} (hK : KA W) : TF W Tryz.f36 pA82 stA87.act stA87.st (vvA88) stA93.st := triFin_code (hihA hK) runA94
theorem tA96 {W : World} (hK : KA W) : TF W Tryz.f36 pA53 stA53.act stA53.st (vvA88) stA93.st := tf_seq (by kernel_rfl) (tA92 hK) (tA95 hK)
theorem tA97 {W : World} (hK : KA W) : TF W Tryz.f36 cdA36 ({ n := 89, t := PT.ofList 0 (PT.nil 8) vsA52, defers := [] }) stA50.st (vvA88) stA93.st := triFin_hds (k := 7) (L1 := stA53) (hihA hK) (by kernel_rfl) runA54 (tA96 hK)
theorem tA98 {W : World} (hK : KA W) : TC W 36 vsA52 stA50.st (vvA88) stA93.st := callT_fin Tryz.func36 bdA36 (by kernel_rfl) (n := 89) (by kernel_rfl) (by kernel_rfl) (tA97 hK)
theorem tA103 {W : World} (hK : KA W) : TX W pA44 stA48.act stA48.st .normal stA101 := by
  refine tx_region (by kernel_rfl) ?_
  refine triOps_cut (i := 0) (j := 3) (L1 := stA50) (hihA hK) (by kernel_rfl) runA51 (by kernel_rfl) ?_
  refine triOps_call (i := 3) (f := 36) (fi := #[]) (ca := #[]) (v := vvA88) (L0 := stA50) (Lc := stA93) (L1 := stA99) rfl rfl (by kernel_rfl) (by kernel_rfl) (by kernel_rfl) (by kernel_rfl) (tA98 hK) runA100 ?_
  exact triOps_end (i := 4) (L1 := stA101) (hihA hK) runA102 (by kernel_rfl)
theorem tA106 {W : World} (hK : KA W) : TX W pA89 stA101.act stA101.st .normal stA104 := triX_code (hihA hK) runA105
theorem tA107 {W : World} (hK : KA W) : TX W pA43 stA48.act stA48.st .normal stA104 := tx_seq (by kernel_rfl) (tA103 hK) (tA106 hK)
theorem tA108 {W : World} (hK : KA W) : TX W pA42 stA46.act stA46.st .normal stA104 := triX_hds (k := 1) (L1 := stA48) (hihA hK) (by kernel_rfl) runA49 (tA107 hK)
theorem tA109 {W : World} (hK : KA W) : TX W pA41 stA46.act stA46.st .normal stA104 := tx_through (by kernel_rfl) (by kernel_rfl) (tA108 hK)
theorem tA112 {W : World} (hK : KA W) : TX W pA91 stA104.act stA104.st .normal stA110 := triX_code (hihA hK) runA111
theorem tA113 {W : World} (hK : KA W) : TX W pA40 stA46.act stA46.st .normal stA110 := tx_seq (by kernel_rfl) (tA109 hK) (tA112 hK)
theorem tA114 {W : World} (hK : KA W) : TX W pA39 stA44.act stA44.st .normal stA110 := triX_hds (k := 2) (L1 := stA46) (hihA hK) (by kernel_rfl) runA47 (tA113 hK)
theorem tA117 {W : World} (hK : KA W) : TX W pA39 stA110.act stA110.st (.exit 0) stA115 := triX_code (hihA hK) runA116
theorem tA118 {W : World} (hK : KA W) : TX W pA38 stA44.act stA44.st (.exit 0) stA115 := tx_loop (m := 1) (by kernel_rfl) rfl (.next (tA114 hK) (.last (tA117 hK)))
theorem tA119 {W : World} (hK : KA W) : TX W pA37 stA44.act stA44.st .normal stA115 := tx_block (by kernel_rfl) (tA118 hK)
theorem tA120 {W : World} (hK : KA W) : TX W pA36 stA42.act stA42.st .normal stA115 := triX_hds (k := 1) (L1 := stA44) (hihA hK) (by kernel_rfl) runA45 (tA119 hK)
theorem tA123 {W : World} (hK : KA W) : TF W Tryz.f23 pA92 stA115.act stA115.st (vvA93) stA121.st := triFin_code (hihA hK) runA122
theorem tA124 {W : World} (hK : KA W) : TF W Tryz.f23 pA35 stA42.act stA42.st (vvA93) stA121.st := tf_seq (by kernel_rfl) (tA120 hK) (tA123 hK)
theorem tA125 {W : World} (hK : KA W) : TF W Tryz.f23 cdA23 ({ n := 46, t := PT.ofList 0 (PT.nil 8) vsA41, defers := [] }) stA39.st (vvA93) stA121.st := triFin_hds (k := 4) (L1 := stA42) (hihA hK) (by kernel_rfl) runA43 (tA124 hK)
theorem tA126 {W : World} (hK : KA W) : TC W 23 vsA41 stA39.st (vvA93) stA121.st := callT_fin Tryz.func23 bdA23 (by kernel_rfl) (n := 46) (by kernel_rfl) (by kernel_rfl) (tA125 hK)
theorem tA131 {W : World} (hK : KA W) : TX W pA34 stA37.act stA37.st .normal stA129 := by
  refine tx_region (by kernel_rfl) ?_
  refine triOps_cut (i := 0) (j := 2) (L1 := stA39) (hihA hK) (by kernel_rfl) runA40 (by kernel_rfl) ?_
  refine triOps_call (i := 2) (f := 23) (fi := #[]) (ca := #[]) (v := vvA93) (L0 := stA39) (Lc := stA121) (L1 := stA127) rfl rfl (by kernel_rfl) (by kernel_rfl) (by kernel_rfl) (by kernel_rfl) (tA126 hK) runA128 ?_
  exact triOps_end (i := 3) (L1 := stA129) (hihA hK) runA130 (by kernel_rfl)
theorem tA134 {W : World} (hK : KA W) : TF W Tryz.f22 pA94 stA129.act stA129.st (.tuple #[.int .i64 2, .int .i64 0]) stA132.st := triFin_code (hihA hK) runA133
theorem tA135 {W : World} (hK : KA W) : TF W Tryz.f22 pA33 stA37.act stA37.st (.tuple #[.int .i64 2, .int .i64 0]) stA132.st := tf_seq (by kernel_rfl) (tA131 hK) (tA134 hK)
theorem tA136 {W : World} (hK : KA W) : TF W Tryz.f22 cdA22 ({ n := 17, t := PT.ofList 0 (PT.nil 8) vsA36, defers := [] }) stA34.st (.tuple #[.int .i64 2, .int .i64 0]) stA132.st := triFin_hds (k := 1) (L1 := stA37) (hihA hK) (by kernel_rfl) runA38 (tA135 hK)
theorem tA137 {W : World} (hK : KA W) : TC W 22 vsA36 stA34.st (.tuple #[.int .i64 2, .int .i64 0]) stA132.st := callT_fin Tryz.func22 bdA22 (by kernel_rfl) (n := 17) (by kernel_rfl) (by kernel_rfl) (tA136 hK)
theorem tA142 {W : World} (hK : KA W) : TX W pA30 stA32.act stA32.st .normal stA140 := by
  refine tx_region (by kernel_rfl) ?_
  refine triOps_cut (i := 0) (j := 3) (L1 := stA34) (hihA hK) (by kernel_rfl) runA35 (by kernel_rfl) ?_
  refine triOps_call (i := 3) (f := 22) (fi := #[]) (ca := #[]) (v := .tuple #[.int .i64 2, .int .i64 0]) (L0 := stA34) (Lc := stA132) (L1 := stA138) rfl rfl (by kernel_rfl) (by kernel_rfl) (by kernel_rfl) (by kernel_rfl) (tA137 hK) runA139 ?_
  exact triOps_end (i := 4) (L1 := stA140) (hihA hK) runA141 (by kernel_rfl)
theorem tA145 {W : World} (hK : KA W) : TX W pA95 stA140.act stA140.st .normal stA143 := triX_code (hihA hK) runA144
theorem tA146 {W : World} (hK : KA W) : TX W pA29 stA32.act stA32.st .normal stA143 := tx_seq (by kernel_rfl) (tA142 hK) (tA145 hK)
theorem tA147 {W : World} (hK : KA W) : TX W pA23 stA30.act stA30.st .normal stA143 := triX_hds (k := 2) (L1 := stA32) (hihA hK) (by kernel_rfl) runA33 (tA146 hK)
theorem tA148 {W : World} (hK : KA W) : TX W pA22 stA30.act stA30.st .normal stA143 := tx_through (by kernel_rfl) (by kernel_rfl) (tA147 hK)
theorem tA151 {W : World} (hK : KA W) : TX W pA97 stA143.act stA143.st .normal stA149 := triX_code (hihA hK) runA150
theorem tA152 {W : World} (hK : KA W) : TX W pA21 stA30.act stA30.st .normal stA149 := tx_seq (by kernel_rfl) (tA148 hK) (tA151 hK)
theorem tA153 {W : World} (hK : KA W) : TX W pA20 stA28.act stA28.st .normal stA149 := triX_hds (k := 2) (L1 := stA30) (hihA hK) (by kernel_rfl) runA31 (tA152 hK)
theorem tA158 {W : World} (hK : KA W) : TX W pA20 stA154.act stA154.st (.exit 0) stA156 := triX_code (hihA hK) runA157
theorem tA159 {W : World} (hK : KA W) : TX W pA19 stA28.act stA28.st (.exit 0) stA156 := tx_loop (m := 3) (by kernel_rfl) rfl (.next (tA153 hK) (rounds_run (hihA hK) runA155 (.last (tA158 hK))))
theorem tA160 {W : World} (hK : KA W) : TX W pA18 stA28.act stA28.st .normal stA156 := tx_block (by kernel_rfl) (tA159 hK)
theorem tA161 {W : World} (hK : KA W) : TX W pA17 stA26.act stA26.st .normal stA156 := triX_hds (k := 1) (L1 := stA28) (hihA hK) (by kernel_rfl) runA29 (tA160 hK)
theorem tA164 {W : World} (hK : KA W) : TF W Tryz.f4 pA105 stA156.act stA156.st (vvA106) stA162.st := triFin_code (hihA hK) runA163
theorem tA165 {W : World} (hK : KA W) : TF W Tryz.f4 pA16 stA26.act stA26.st (vvA106) stA162.st := tf_seq (by kernel_rfl) (tA161 hK) (tA164 hK)
theorem tA166 {W : World} (hK : KA W) : TF W Tryz.f4 cdA4 ({ n := 52, t := PT.ofList 0 (PT.nil 8) vsA25, defers := [] }) stA23.st (vvA106) stA162.st := triFin_hds (k := 4) (L1 := stA26) (hihA hK) (by kernel_rfl) runA27 (tA165 hK)
theorem tA167 {W : World} (hK : KA W) : TC W 4 vsA25 stA23.st (vvA106) stA162.st := callT_fin Tryz.func4 bdA4 (by kernel_rfl) (n := 52) (by kernel_rfl) (by kernel_rfl) (tA166 hK)
theorem tA172 {W : World} (hK : KA W) : TX W pA13 stA21.act stA21.st .normal stA170 := by
  refine tx_region (by kernel_rfl) ?_
  refine triOps_cut (i := 0) (j := 1) (L1 := stA23) (hihA hK) (by kernel_rfl) runA24 (by kernel_rfl) ?_
  refine triOps_call (i := 1) (f := 4) (fi := #[]) (ca := #[]) (v := vvA106) (L0 := stA23) (Lc := stA162) (L1 := stA168) rfl rfl (by kernel_rfl) (by kernel_rfl) (by kernel_rfl) (by kernel_rfl) (tA167 hK) runA169 ?_
  exact triOps_end (i := 2) (L1 := stA170) (hihA hK) runA171 (by kernel_rfl)
theorem tA175 {W : World} (hK : KA W) : TF W Tryz.f17 pA107 stA170.act stA170.st (.tuple #[.int .i64 4, .int .i64 0]) stA173.st := triFin_code (hihA hK) runA174
theorem tA176 {W : World} (hK : KA W) : TF W Tryz.f17 pA12 stA21.act stA21.st (.tuple #[.int .i64 4, .int .i64 0]) stA173.st := tf_seq (by kernel_rfl) (tA172 hK) (tA175 hK)
theorem tA177 {W : World} (hK : KA W) : TF W Tryz.f17 cdA17 ({ n := 30, t := PT.ofList 0 (PT.nil 8) vsA20, defers := [] }) stA18.st (.tuple #[.int .i64 4, .int .i64 0]) stA173.st := triFin_hds (k := 1) (L1 := stA21) (hihA hK) (by kernel_rfl) runA22 (tA176 hK)
theorem tA178 {W : World} (hK : KA W) : TC W 17 vsA20 stA18.st (.tuple #[.int .i64 4, .int .i64 0]) stA173.st := callT_fin Tryz.func17 bdA17 (by kernel_rfl) (n := 30) (by kernel_rfl) (by kernel_rfl) (tA177 hK)
theorem tA183 {W : World} (hK : KA W) : TX W pA11 stA16.act stA16.st .normal stA181 := by
  refine tx_region (by kernel_rfl) ?_
  refine triOps_cut (i := 0) (j := 1) (L1 := stA18) (hihA hK) (by kernel_rfl) runA19 (by kernel_rfl) ?_
  refine triOps_call (i := 1) (f := 17) (fi := #[]) (ca := #[]) (v := .tuple #[.int .i64 4, .int .i64 0]) (L0 := stA18) (Lc := stA173) (L1 := stA179) rfl rfl (by kernel_rfl) (by kernel_rfl) (by kernel_rfl) (by kernel_rfl) (tA178 hK) runA180 ?_
  exact triOps_end (i := 2) (L1 := stA181) (hihA hK) runA182 (by kernel_rfl)
theorem tA186 {W : World} (hK : KA W) : TX W pA108 stA181.act stA181.st .normal stA184 := triX_code (hihA hK) runA185
theorem tA187 {W : World} (hK : KA W) : TX W pA10 stA16.act stA16.st .normal stA184 := tx_seq (by kernel_rfl) (tA183 hK) (tA186 hK)
theorem tA225 {W : World} (hK : KA W) : TF W Tryz.f55 pA73 stA221.act stA221.st (vvA141) stA223.st := triFin_code (hihA hK) runA224
theorem tA226 {W : World} (hK : KA W) : TF W Tryz.f55 cdA55 ({ n := 62, t := PT.ofList 0 (PT.nil 8) vsA220, defers := [] }) stA218.st (vvA141) stA223.st := triFin_hds (k := 3) (L1 := stA221) (hihA hK) (by kernel_rfl) runA222 (tA225 hK)
theorem tA227 {W : World} (hK : KA W) : TC W 55 vsA220 stA218.st (vvA141) stA223.st := callT_fin Tryz.func55 bdA55 (by kernel_rfl) (n := 62) (by kernel_rfl) (by kernel_rfl) (tA226 hK)
theorem tA232 {W : World} (hK : KA W) : TX W pA62 stA216.act stA216.st .normal stA230 := by
  refine tx_region (by kernel_rfl) ?_
  refine triOps_cut (i := 0) (j := 3) (L1 := stA218) (hihA hK) (by kernel_rfl) runA219 (by kernel_rfl) ?_
  refine triOps_call (i := 3) (f := 55) (fi := #[]) (ca := #[]) (v := vvA141) (L0 := stA218) (Lc := stA223) (L1 := stA228) rfl rfl (by kernel_rfl) (by kernel_rfl) (by kernel_rfl) (by kernel_rfl) (tA227 hK) runA229 ?_
  exact triOps_end (i := 4) (L1 := stA230) (hihA hK) runA231 (by kernel_rfl)
theorem tA235 {W : World} (hK : KA W) : TX W pA80 stA230.act stA230.st .normal stA233 := triX_code (hihA hK) runA234
theorem tA236 {W : World} (hK : KA W) : TX W pA61 stA216.act stA216.st .normal stA233 := tx_seq (by kernel_rfl) (tA232 hK) (tA235 hK)
theorem tA237 {W : World} (hK : KA W) : TX W pA60 stA214.act stA214.st .normal stA233 := triX_hds (k := 1) (L1 := stA216) (hihA hK) (by kernel_rfl) runA217 (tA236 hK)
theorem tA238 {W : World} (hK : KA W) : TX W pA59 stA214.act stA214.st .normal stA233 := tx_through (by kernel_rfl) (by kernel_rfl) (tA237 hK)
theorem tA241 {W : World} (hK : KA W) : TX W pA81 stA233.act stA233.st .normal stA239 := triX_code (hihA hK) runA240
theorem tA242 {W : World} (hK : KA W) : TX W pA58 stA214.act stA214.st .normal stA239 := tx_seq (by kernel_rfl) (tA238 hK) (tA241 hK)
theorem tA243 {W : World} (hK : KA W) : TX W pA57 stA212.act stA212.st .normal stA239 := triX_hds (k := 2) (L1 := stA214) (hihA hK) (by kernel_rfl) runA215 (tA242 hK)
theorem tA246 {W : World} (hK : KA W) : TX W pA57 stA239.act stA239.st (.exit 0) stA244 := triX_code (hihA hK) runA245
theorem tA247 {W : World} (hK : KA W) : TX W pA56 stA212.act stA212.st (.exit 0) stA244 := tx_loop (m := 1) (by kernel_rfl) rfl (.next (tA243 hK) (.last (tA246 hK)))
theorem tA248 {W : World} (hK : KA W) : TX W pA55 stA212.act stA212.st .normal stA244 := tx_block (by kernel_rfl) (tA247 hK)
theorem tA249 {W : World} (hK : KA W) : TX W pA54 stA210.act stA210.st .normal stA244 := triX_hds (k := 1) (L1 := stA212) (hihA hK) (by kernel_rfl) runA213 (tA248 hK)
theorem tA252 {W : World} (hK : KA W) : TF W Tryz.f36 pA82 stA244.act stA244.st (vvA147) stA250.st := triFin_code (hihA hK) runA251
theorem tA253 {W : World} (hK : KA W) : TF W Tryz.f36 pA53 stA210.act stA210.st (vvA147) stA250.st := tf_seq (by kernel_rfl) (tA249 hK) (tA252 hK)
theorem tA254 {W : World} (hK : KA W) : TF W Tryz.f36 cdA36 ({ n := 89, t := PT.ofList 0 (PT.nil 8) vsA209, defers := [] }) stA207.st (vvA147) stA250.st := triFin_hds (k := 7) (L1 := stA210) (hihA hK) (by kernel_rfl) runA211 (tA253 hK)
theorem tA255 {W : World} (hK : KA W) : TC W 36 vsA209 stA207.st (vvA147) stA250.st := callT_fin Tryz.func36 bdA36 (by kernel_rfl) (n := 89) (by kernel_rfl) (by kernel_rfl) (tA254 hK)
theorem tA260 {W : World} (hK : KA W) : TX W pA44 stA205.act stA205.st .normal stA258 := by
  refine tx_region (by kernel_rfl) ?_
  refine triOps_cut (i := 0) (j := 3) (L1 := stA207) (hihA hK) (by kernel_rfl) runA208 (by kernel_rfl) ?_
  refine triOps_call (i := 3) (f := 36) (fi := #[]) (ca := #[]) (v := vvA147) (L0 := stA207) (Lc := stA250) (L1 := stA256) rfl rfl (by kernel_rfl) (by kernel_rfl) (by kernel_rfl) (by kernel_rfl) (tA255 hK) runA257 ?_
  exact triOps_end (i := 4) (L1 := stA258) (hihA hK) runA259 (by kernel_rfl)
theorem tA263 {W : World} (hK : KA W) : TX W pA89 stA258.act stA258.st .normal stA261 := triX_code (hihA hK) runA262
theorem tA264 {W : World} (hK : KA W) : TX W pA43 stA205.act stA205.st .normal stA261 := tx_seq (by kernel_rfl) (tA260 hK) (tA263 hK)
theorem tA265 {W : World} (hK : KA W) : TX W pA42 stA203.act stA203.st .normal stA261 := triX_hds (k := 1) (L1 := stA205) (hihA hK) (by kernel_rfl) runA206 (tA264 hK)
theorem tA266 {W : World} (hK : KA W) : TX W pA41 stA203.act stA203.st .normal stA261 := tx_through (by kernel_rfl) (by kernel_rfl) (tA265 hK)
theorem tA269 {W : World} (hK : KA W) : TX W pA91 stA261.act stA261.st .normal stA267 := triX_code (hihA hK) runA268
theorem tA270 {W : World} (hK : KA W) : TX W pA40 stA203.act stA203.st .normal stA267 := tx_seq (by kernel_rfl) (tA266 hK) (tA269 hK)
theorem tA271 {W : World} (hK : KA W) : TX W pA39 stA201.act stA201.st .normal stA267 := triX_hds (k := 2) (L1 := stA203) (hihA hK) (by kernel_rfl) runA204 (tA270 hK)
theorem tA274 {W : World} (hK : KA W) : TX W pA39 stA267.act stA267.st (.exit 0) stA272 := triX_code (hihA hK) runA273
theorem tA275 {W : World} (hK : KA W) : TX W pA38 stA201.act stA201.st (.exit 0) stA272 := tx_loop (m := 1) (by kernel_rfl) rfl (.next (tA271 hK) (.last (tA274 hK)))
theorem tA276 {W : World} (hK : KA W) : TX W pA37 stA201.act stA201.st .normal stA272 := tx_block (by kernel_rfl) (tA275 hK)
theorem tA277 {W : World} (hK : KA W) : TX W pA36 stA199.act stA199.st .normal stA272 := triX_hds (k := 1) (L1 := stA201) (hihA hK) (by kernel_rfl) runA202 (tA276 hK)
theorem tA280 {W : World} (hK : KA W) : TF W Tryz.f23 pA92 stA272.act stA272.st (vvA149) stA278.st := triFin_code (hihA hK) runA279
theorem tA281 {W : World} (hK : KA W) : TF W Tryz.f23 pA35 stA199.act stA199.st (vvA149) stA278.st := tf_seq (by kernel_rfl) (tA277 hK) (tA280 hK)
theorem tA282 {W : World} (hK : KA W) : TF W Tryz.f23 cdA23 ({ n := 46, t := PT.ofList 0 (PT.nil 8) vsA198, defers := [] }) stA196.st (vvA149) stA278.st := triFin_hds (k := 4) (L1 := stA199) (hihA hK) (by kernel_rfl) runA200 (tA281 hK)
theorem tA283 {W : World} (hK : KA W) : TC W 23 vsA198 stA196.st (vvA149) stA278.st := callT_fin Tryz.func23 bdA23 (by kernel_rfl) (n := 46) (by kernel_rfl) (by kernel_rfl) (tA282 hK)
theorem tA288 {W : World} (hK : KA W) : TX W pA124 stA194.act stA194.st .normal stA286 := by
  refine tx_region (by kernel_rfl) ?_
  refine triOps_cut (i := 0) (j := 5) (L1 := stA196) (hihA hK) (by kernel_rfl) runA197 (by kernel_rfl) ?_
  refine triOps_call (i := 5) (f := 23) (fi := #[]) (ca := #[]) (v := vvA149) (L0 := stA196) (Lc := stA278) (L1 := stA284) rfl rfl (by kernel_rfl) (by kernel_rfl) (by kernel_rfl) (by kernel_rfl) (tA283 hK) runA285 ?_
  exact triOps_end (i := 6) (L1 := stA286) (hihA hK) runA287 (by kernel_rfl)
theorem tA289 {W : World} (hK : KA W) : TX W pA120 stA192.act stA192.st .normal stA286 := triX_hds (k := 2) (L1 := stA194) (hihA hK) (by kernel_rfl) runA195 (tA288 hK)
theorem tA290 {W : World} (hK : KA W) : TX W pA119 stA192.act stA192.st .normal stA286 := tx_through (by kernel_rfl) (by kernel_rfl) (tA289 hK)
theorem tA293 {W : World} (hK : KA W) : TX W pA151 stA286.act stA286.st .normal stA291 := triX_code (hihA hK) runA292
theorem tA294 {W : World} (hK : KA W) : TX W pA118 stA192.act stA192.st .normal stA291 := tx_seq (by kernel_rfl) (tA290 hK) (tA293 hK)
theorem tA295 {W : World} (hK : KA W) : TX W pA117 stA190.act stA190.st .normal stA291 := triX_hds (k := 2) (L1 := stA192) (hihA hK) (by kernel_rfl) runA193 (tA294 hK)
theorem tA300 {W : World} (hK : KA W) : TX W pA117 stA296.act stA296.st (.exit 0) stA298 := triX_code (hihA hK) runA299
theorem tA301 {W : World} (hK : KA W) : TX W pA116 stA190.act stA190.st (.exit 0) stA298 := tx_loop (m := 3) (by kernel_rfl) rfl (.next (tA295 hK) (rounds_run (hihA hK) runA297 (.last (tA300 hK))))
theorem tA302 {W : World} (hK : KA W) : TX W pA115 stA190.act stA190.st .normal stA298 := tx_block (by kernel_rfl) (tA301 hK)
theorem tA303 {W : World} (hK : KA W) : TX W pA114 stA188.act stA188.st .normal stA298 := triX_hds (k := 1) (L1 := stA190) (hihA hK) (by kernel_rfl) runA191 (tA302 hK)
theorem tA306 {W : World} (hK : KA W) : TF W Tryz.f6 pA164 stA298.act stA298.st (vvA174) stA304.st := triFin_code (hihA hK) runA305
theorem tA307 {W : World} (hK : KA W) : TF W Tryz.f6 pA113 stA188.act stA188.st (vvA174) stA304.st := tf_seq (by kernel_rfl) (tA303 hK) (tA306 hK)
theorem tA308 {W : World} (hK : KA W) : TF W Tryz.f6 pA109 stA184.act stA184.st (vvA174) stA304.st := triFin_hds (k := 2) (L1 := stA188) (hihA hK) (by kernel_rfl) runA189 (tA307 hK)
theorem tA309 {W : World} (hK : KA W) : TF W Tryz.f6 pA9 stA16.act stA16.st (vvA174) stA304.st := tf_seq (by kernel_rfl) (tA187 hK) (tA308 hK)
theorem tA310 {W : World} (hK : KA W) : TF W Tryz.f6 cdA6 ({ n := 66, t := PT.ofList 0 (PT.nil 8) vsA15, defers := [] }) stA13.st (vvA174) stA304.st := triFin_hds (k := 1) (L1 := stA16) (hihA hK) (by kernel_rfl) runA17 (tA309 hK)
theorem tA311 {W : World} (hK : KA W) : TC W 6 vsA15 stA13.st (vvA174) stA304.st := callT_fin Tryz.func6 bdA6 (by kernel_rfl) (n := 66) (by kernel_rfl) (by kernel_rfl) (tA310 hK)
theorem tA316 {W : World} (hK : KA W) : TX W pA8 stA11.act stA11.st .normal stA314 := by
  refine tx_region (by kernel_rfl) ?_
  refine triOps_cut (i := 0) (j := 1) (L1 := stA13) (hihA hK) (by kernel_rfl) runA14 (by kernel_rfl) ?_
  refine triOps_call (i := 1) (f := 6) (fi := #[]) (ca := #[]) (v := vvA174) (L0 := stA13) (Lc := stA304) (L1 := stA312) rfl rfl (by kernel_rfl) (by kernel_rfl) (by kernel_rfl) (by kernel_rfl) (tA311 hK) runA313 ?_
  exact triOps_end (i := 2) (L1 := stA314) (hihA hK) runA315 (by kernel_rfl)
theorem tA327 {W : World} (hK : KA W) : TX W pA180 stA323.act stA323.st (.exit 0) stA325 := triX_code (hihA hK) runA326
theorem tA328 {W : World} (hK : KA W) : TX W pA179 stA319.act stA319.st (.exit 0) stA325 := tx_loop (m := 4) (by kernel_rfl) rfl (rounds_run (hihA hK) runA322 (rounds_run (hihA hK) runA324 (.last (tA327 hK))))
theorem tA329 {W : World} (hK : KA W) : TX W pA178 stA319.act stA319.st .normal stA325 := tx_block (by kernel_rfl) (tA328 hK)
theorem tA330 {W : World} (hK : KA W) : TX W pA177 stA317.act stA317.st .normal stA325 := triX_hds (k := 1) (L1 := stA319) (hihA hK) (by kernel_rfl) runA320 (tA329 hK)
theorem tA333 {W : World} (hK : KA W) : TF W Tryz.f26 pA195 stA325.act stA325.st (vvA196) stA331.st := triFin_code (hihA hK) runA332
theorem tA334 {W : World} (hK : KA W) : TF W Tryz.f26 pA176 stA317.act stA317.st (vvA196) stA331.st := tf_seq (by kernel_rfl) (tA330 hK) (tA333 hK)
theorem tA335 {W : World} (hK : KA W) : TF W Tryz.f26 pA175 stA314.act stA314.st (vvA196) stA331.st := triFin_hds (k := 2) (L1 := stA317) (hihA hK) (by kernel_rfl) runA318 (tA334 hK)
theorem tA336 {W : World} (hK : KA W) : TF W Tryz.f26 pA7 stA11.act stA11.st (vvA196) stA331.st := tf_seq (by kernel_rfl) (tA316 hK) (tA335 hK)
theorem tA337 {W : World} (hK : KA W) : TF W Tryz.f26 cdA26 ({ n := 42, t := PT.ofList 0 (PT.nil 8) vsA10, defers := [] }) stA8.st (vvA196) stA331.st := triFin_hds (k := 1) (L1 := stA11) (hihA hK) (by kernel_rfl) runA12 (tA336 hK)
theorem tA338 {W : World} (hK : KA W) : TC W 26 vsA10 stA8.st (vvA196) stA331.st := callT_fin Tryz.func26 bdA26 (by kernel_rfl) (n := 42) (by kernel_rfl) (by kernel_rfl) (tA337 hK)
theorem tA343 {W : World} (hK : KA W) : TX W pA6 stA6.act stA6.st .normal stA341 := by
  refine tx_region (by kernel_rfl) ?_
  refine triOps_cut (i := 0) (j := 1) (L1 := stA8) (hihA hK) (by kernel_rfl) runA9 (by kernel_rfl) ?_
  refine triOps_call (i := 1) (f := 26) (fi := #[]) (ca := #[]) (v := vvA196) (L0 := stA8) (Lc := stA331) (L1 := stA339) rfl rfl (by kernel_rfl) (by kernel_rfl) (by kernel_rfl) (by kernel_rfl) (tA338 hK) runA340 ?_
  exact triOps_end (i := 2) (L1 := stA341) (hihA hK) runA342 (by kernel_rfl)
theorem tA346 {W : World} (hK : KA W) : TF W Tryz.f28 pA197 stA341.act stA341.st (vvA199) stA344.st := triFin_code (hihA hK) runA345
theorem tA347 {W : World} (hK : KA W) : TF W Tryz.f28 pA5 stA6.act stA6.st (vvA199) stA344.st := tf_seq (by kernel_rfl) (tA343 hK) (tA346 hK)
theorem tA348 {W : World} (hK : KA W) : TF W Tryz.f28 cdA28 ({ n := 45, t := PT.ofList 0 (PT.nil 8) vsA5, defers := [] }) stA3.st (vvA199) stA344.st := triFin_hds (k := 1) (L1 := stA6) (hihA hK) (by kernel_rfl) runA7 (tA347 hK)
theorem tA349 {W : World} (hK : KA W) : TC W 28 vsA5 stA3.st (vvA199) stA344.st := callT_fin Tryz.func28 bdA28 (by kernel_rfl) (n := 45) (by kernel_rfl) (by kernel_rfl) (tA348 hK)
theorem tA354 {W : World} (hK : KA W) : TX W pA1 stA1.act stA1.st .normal stA352 := by
  refine tx_region (by kernel_rfl) ?_
  refine triOps_cut (i := 0) (j := 1) (L1 := stA3) (hihA hK) (by kernel_rfl) runA4 (by kernel_rfl) ?_
  refine triOps_call (i := 1) (f := 28) (fi := #[]) (ca := #[]) (v := vvA199) (L0 := stA3) (Lc := stA344) (L1 := stA350) rfl rfl (by kernel_rfl) (by kernel_rfl) (by kernel_rfl) (by kernel_rfl) (tA349 hK) runA351 ?_
  exact triOps_end (i := 2) (L1 := stA352) (hihA hK) runA353 (by kernel_rfl)
theorem tA405 {W : World} (hK : KA W) : TF W Tryz.f55 pA73 stA401.act stA401.st (vvA225) stA403.st := triFin_code (hihA hK) runA404
theorem tA406 {W : World} (hK : KA W) : TF W Tryz.f55 cdA55 ({ n := 62, t := PT.ofList 0 (PT.nil 8) vsA400, defers := [] }) stA398.st (vvA225) stA403.st := triFin_hds (k := 3) (L1 := stA401) (hihA hK) (by kernel_rfl) runA402 (tA405 hK)
theorem tA407 {W : World} (hK : KA W) : TC W 55 vsA400 stA398.st (vvA225) stA403.st := callT_fin Tryz.func55 bdA55 (by kernel_rfl) (n := 62) (by kernel_rfl) (by kernel_rfl) (tA406 hK)
theorem tA412 {W : World} (hK : KA W) : TX W pA62 stA396.act stA396.st .normal stA410 := by
  refine tx_region (by kernel_rfl) ?_
  refine triOps_cut (i := 0) (j := 3) (L1 := stA398) (hihA hK) (by kernel_rfl) runA399 (by kernel_rfl) ?_
  refine triOps_call (i := 3) (f := 55) (fi := #[]) (ca := #[]) (v := vvA225) (L0 := stA398) (Lc := stA403) (L1 := stA408) rfl rfl (by kernel_rfl) (by kernel_rfl) (by kernel_rfl) (by kernel_rfl) (tA407 hK) runA409 ?_
  exact triOps_end (i := 4) (L1 := stA410) (hihA hK) runA411 (by kernel_rfl)
theorem tA415 {W : World} (hK : KA W) : TX W pA80 stA410.act stA410.st .normal stA413 := triX_code (hihA hK) runA414
theorem tA416 {W : World} (hK : KA W) : TX W pA61 stA396.act stA396.st .normal stA413 := tx_seq (by kernel_rfl) (tA412 hK) (tA415 hK)
theorem tA417 {W : World} (hK : KA W) : TX W pA60 stA394.act stA394.st .normal stA413 := triX_hds (k := 1) (L1 := stA396) (hihA hK) (by kernel_rfl) runA397 (tA416 hK)
theorem tA418 {W : World} (hK : KA W) : TX W pA59 stA394.act stA394.st .normal stA413 := tx_through (by kernel_rfl) (by kernel_rfl) (tA417 hK)
theorem tA421 {W : World} (hK : KA W) : TX W pA81 stA413.act stA413.st .normal stA419 := triX_code (hihA hK) runA420
theorem tA422 {W : World} (hK : KA W) : TX W pA58 stA394.act stA394.st .normal stA419 := tx_seq (by kernel_rfl) (tA418 hK) (tA421 hK)
theorem tA423 {W : World} (hK : KA W) : TX W pA57 stA392.act stA392.st .normal stA419 := triX_hds (k := 2) (L1 := stA394) (hihA hK) (by kernel_rfl) runA395 (tA422 hK)
theorem tA426 {W : World} (hK : KA W) : TX W pA57 stA419.act stA419.st (.exit 0) stA424 := triX_code (hihA hK) runA425
theorem tA427 {W : World} (hK : KA W) : TX W pA56 stA392.act stA392.st (.exit 0) stA424 := tx_loop (m := 1) (by kernel_rfl) rfl (.next (tA423 hK) (.last (tA426 hK)))
theorem tA428 {W : World} (hK : KA W) : TX W pA55 stA392.act stA392.st .normal stA424 := tx_block (by kernel_rfl) (tA427 hK)
theorem tA429 {W : World} (hK : KA W) : TX W pA54 stA390.act stA390.st .normal stA424 := triX_hds (k := 1) (L1 := stA392) (hihA hK) (by kernel_rfl) runA393 (tA428 hK)
theorem tA432 {W : World} (hK : KA W) : TF W Tryz.f36 pA82 stA424.act stA424.st (vvA231) stA430.st := triFin_code (hihA hK) runA431
theorem tA433 {W : World} (hK : KA W) : TF W Tryz.f36 pA53 stA390.act stA390.st (vvA231) stA430.st := tf_seq (by kernel_rfl) (tA429 hK) (tA432 hK)
theorem tA434 {W : World} (hK : KA W) : TF W Tryz.f36 cdA36 ({ n := 89, t := PT.ofList 0 (PT.nil 8) vsA389, defers := [] }) stA387.st (vvA231) stA430.st := triFin_hds (k := 7) (L1 := stA390) (hihA hK) (by kernel_rfl) runA391 (tA433 hK)
theorem tA435 {W : World} (hK : KA W) : TC W 36 vsA389 stA387.st (vvA231) stA430.st := callT_fin Tryz.func36 bdA36 (by kernel_rfl) (n := 89) (by kernel_rfl) (by kernel_rfl) (tA434 hK)
theorem tA440 {W : World} (hK : KA W) : TX W pA44 stA385.act stA385.st .normal stA438 := by
  refine tx_region (by kernel_rfl) ?_
  refine triOps_cut (i := 0) (j := 3) (L1 := stA387) (hihA hK) (by kernel_rfl) runA388 (by kernel_rfl) ?_
  refine triOps_call (i := 3) (f := 36) (fi := #[]) (ca := #[]) (v := vvA231) (L0 := stA387) (Lc := stA430) (L1 := stA436) rfl rfl (by kernel_rfl) (by kernel_rfl) (by kernel_rfl) (by kernel_rfl) (tA435 hK) runA437 ?_
  exact triOps_end (i := 4) (L1 := stA438) (hihA hK) runA439 (by kernel_rfl)
theorem tA443 {W : World} (hK : KA W) : TX W pA89 stA438.act stA438.st .normal stA441 := triX_code (hihA hK) runA442
theorem tA444 {W : World} (hK : KA W) : TX W pA43 stA385.act stA385.st .normal stA441 := tx_seq (by kernel_rfl) (tA440 hK) (tA443 hK)
theorem tA445 {W : World} (hK : KA W) : TX W pA42 stA383.act stA383.st .normal stA441 := triX_hds (k := 1) (L1 := stA385) (hihA hK) (by kernel_rfl) runA386 (tA444 hK)
theorem tA446 {W : World} (hK : KA W) : TX W pA41 stA383.act stA383.st .normal stA441 := tx_through (by kernel_rfl) (by kernel_rfl) (tA445 hK)
theorem tA449 {W : World} (hK : KA W) : TX W pA91 stA441.act stA441.st .normal stA447 := triX_code (hihA hK) runA448
theorem tA450 {W : World} (hK : KA W) : TX W pA40 stA383.act stA383.st .normal stA447 := tx_seq (by kernel_rfl) (tA446 hK) (tA449 hK)
theorem tA451 {W : World} (hK : KA W) : TX W pA39 stA381.act stA381.st .normal stA447 := triX_hds (k := 2) (L1 := stA383) (hihA hK) (by kernel_rfl) runA384 (tA450 hK)
theorem tA454 {W : World} (hK : KA W) : TX W pA39 stA447.act stA447.st (.exit 0) stA452 := triX_code (hihA hK) runA453
theorem tA455 {W : World} (hK : KA W) : TX W pA38 stA381.act stA381.st (.exit 0) stA452 := tx_loop (m := 1) (by kernel_rfl) rfl (.next (tA451 hK) (.last (tA454 hK)))
theorem tA456 {W : World} (hK : KA W) : TX W pA37 stA381.act stA381.st .normal stA452 := tx_block (by kernel_rfl) (tA455 hK)
theorem tA457 {W : World} (hK : KA W) : TX W pA36 stA379.act stA379.st .normal stA452 := triX_hds (k := 1) (L1 := stA381) (hihA hK) (by kernel_rfl) runA382 (tA456 hK)
theorem tA460 {W : World} (hK : KA W) : TF W Tryz.f23 pA92 stA452.act stA452.st (vvA233) stA458.st := triFin_code (hihA hK) runA459
theorem tA461 {W : World} (hK : KA W) : TF W Tryz.f23 pA35 stA379.act stA379.st (vvA233) stA458.st := tf_seq (by kernel_rfl) (tA457 hK) (tA460 hK)
theorem tA462 {W : World} (hK : KA W) : TF W Tryz.f23 cdA23 ({ n := 46, t := PT.ofList 0 (PT.nil 8) vsA378, defers := [] }) stA376.st (vvA233) stA458.st := triFin_hds (k := 4) (L1 := stA379) (hihA hK) (by kernel_rfl) runA380 (tA461 hK)
theorem tA463 {W : World} (hK : KA W) : TC W 23 vsA378 stA376.st (vvA233) stA458.st := callT_fin Tryz.func23 bdA23 (by kernel_rfl) (n := 46) (by kernel_rfl) (by kernel_rfl) (tA462 hK)
theorem tA468 {W : World} (hK : KA W) : TX W pA34 stA374.act stA374.st .normal stA466 := by
  refine tx_region (by kernel_rfl) ?_
  refine triOps_cut (i := 0) (j := 2) (L1 := stA376) (hihA hK) (by kernel_rfl) runA377 (by kernel_rfl) ?_
  refine triOps_call (i := 2) (f := 23) (fi := #[]) (ca := #[]) (v := vvA233) (L0 := stA376) (Lc := stA458) (L1 := stA464) rfl rfl (by kernel_rfl) (by kernel_rfl) (by kernel_rfl) (by kernel_rfl) (tA463 hK) runA465 ?_
  exact triOps_end (i := 3) (L1 := stA466) (hihA hK) runA467 (by kernel_rfl)
theorem tA471 {W : World} (hK : KA W) : TF W Tryz.f22 pA94 stA466.act stA466.st (.tuple #[.int .i64 2, .int .i64 0]) stA469.st := triFin_code (hihA hK) runA470
theorem tA472 {W : World} (hK : KA W) : TF W Tryz.f22 pA33 stA374.act stA374.st (.tuple #[.int .i64 2, .int .i64 0]) stA469.st := tf_seq (by kernel_rfl) (tA468 hK) (tA471 hK)
theorem tA473 {W : World} (hK : KA W) : TF W Tryz.f22 cdA22 ({ n := 17, t := PT.ofList 0 (PT.nil 8) vsA373, defers := [] }) stA371.st (.tuple #[.int .i64 2, .int .i64 0]) stA469.st := triFin_hds (k := 1) (L1 := stA374) (hihA hK) (by kernel_rfl) runA375 (tA472 hK)
theorem tA474 {W : World} (hK : KA W) : TC W 22 vsA373 stA371.st (.tuple #[.int .i64 2, .int .i64 0]) stA469.st := callT_fin Tryz.func22 bdA22 (by kernel_rfl) (n := 17) (by kernel_rfl) (by kernel_rfl) (tA473 hK)
theorem tA479 {W : World} (hK : KA W) : TX W pA30 stA369.act stA369.st .normal stA477 := by
  refine tx_region (by kernel_rfl) ?_
  refine triOps_cut (i := 0) (j := 3) (L1 := stA371) (hihA hK) (by kernel_rfl) runA372 (by kernel_rfl) ?_
  refine triOps_call (i := 3) (f := 22) (fi := #[]) (ca := #[]) (v := .tuple #[.int .i64 2, .int .i64 0]) (L0 := stA371) (Lc := stA469) (L1 := stA475) rfl rfl (by kernel_rfl) (by kernel_rfl) (by kernel_rfl) (by kernel_rfl) (tA474 hK) runA476 ?_
  exact triOps_end (i := 4) (L1 := stA477) (hihA hK) runA478 (by kernel_rfl)
theorem tA482 {W : World} (hK : KA W) : TX W pA95 stA477.act stA477.st .normal stA480 := triX_code (hihA hK) runA481
theorem tA483 {W : World} (hK : KA W) : TX W pA29 stA369.act stA369.st .normal stA480 := tx_seq (by kernel_rfl) (tA479 hK) (tA482 hK)
theorem tA484 {W : World} (hK : KA W) : TX W pA23 stA367.act stA367.st .normal stA480 := triX_hds (k := 2) (L1 := stA369) (hihA hK) (by kernel_rfl) runA370 (tA483 hK)
theorem tA485 {W : World} (hK : KA W) : TX W pA22 stA367.act stA367.st .normal stA480 := tx_through (by kernel_rfl) (by kernel_rfl) (tA484 hK)
theorem tA488 {W : World} (hK : KA W) : TX W pA97 stA480.act stA480.st .normal stA486 := triX_code (hihA hK) runA487
theorem tA489 {W : World} (hK : KA W) : TX W pA21 stA367.act stA367.st .normal stA486 := tx_seq (by kernel_rfl) (tA485 hK) (tA488 hK)
theorem tA490 {W : World} (hK : KA W) : TX W pA20 stA365.act stA365.st .normal stA486 := triX_hds (k := 2) (L1 := stA367) (hihA hK) (by kernel_rfl) runA368 (tA489 hK)
theorem tA495 {W : World} (hK : KA W) : TX W pA20 stA491.act stA491.st (.exit 0) stA493 := triX_code (hihA hK) runA494
theorem tA496 {W : World} (hK : KA W) : TX W pA19 stA365.act stA365.st (.exit 0) stA493 := tx_loop (m := 3) (by kernel_rfl) rfl (.next (tA490 hK) (rounds_run (hihA hK) runA492 (.last (tA495 hK))))
theorem tA497 {W : World} (hK : KA W) : TX W pA18 stA365.act stA365.st .normal stA493 := tx_block (by kernel_rfl) (tA496 hK)
theorem tA498 {W : World} (hK : KA W) : TX W pA17 stA363.act stA363.st .normal stA493 := triX_hds (k := 1) (L1 := stA365) (hihA hK) (by kernel_rfl) runA366 (tA497 hK)
theorem tA501 {W : World} (hK : KA W) : TF W Tryz.f4 pA105 stA493.act stA493.st (vvA239) stA499.st := triFin_code (hihA hK) runA500
theorem tA502 {W : World} (hK : KA W) : TF W Tryz.f4 pA16 stA363.act stA363.st (vvA239) stA499.st := tf_seq (by kernel_rfl) (tA498 hK) (tA501 hK)
theorem tA503 {W : World} (hK : KA W) : TF W Tryz.f4 cdA4 ({ n := 52, t := PT.ofList 0 (PT.nil 8) vsA362, defers := [] }) stA360.st (vvA239) stA499.st := triFin_hds (k := 4) (L1 := stA363) (hihA hK) (by kernel_rfl) runA364 (tA502 hK)
theorem tA504 {W : World} (hK : KA W) : TC W 4 vsA362 stA360.st (vvA239) stA499.st := callT_fin Tryz.func4 bdA4 (by kernel_rfl) (n := 52) (by kernel_rfl) (by kernel_rfl) (tA503 hK)
theorem tA509 {W : World} (hK : KA W) : TX W pA13 stA358.act stA358.st .normal stA507 := by
  refine tx_region (by kernel_rfl) ?_
  refine triOps_cut (i := 0) (j := 1) (L1 := stA360) (hihA hK) (by kernel_rfl) runA361 (by kernel_rfl) ?_
  refine triOps_call (i := 1) (f := 4) (fi := #[]) (ca := #[]) (v := vvA239) (L0 := stA360) (Lc := stA499) (L1 := stA505) rfl rfl (by kernel_rfl) (by kernel_rfl) (by kernel_rfl) (by kernel_rfl) (tA504 hK) runA506 ?_
  exact triOps_end (i := 2) (L1 := stA507) (hihA hK) runA508 (by kernel_rfl)
theorem tA512 {W : World} (hK : KA W) : TF W Tryz.f17 pA107 stA507.act stA507.st (.tuple #[.int .i64 4, .int .i64 0]) stA510.st := triFin_code (hihA hK) runA511
theorem tA513 {W : World} (hK : KA W) : TF W Tryz.f17 pA12 stA358.act stA358.st (.tuple #[.int .i64 4, .int .i64 0]) stA510.st := tf_seq (by kernel_rfl) (tA509 hK) (tA512 hK)
theorem tA514 {W : World} (hK : KA W) : TF W Tryz.f17 cdA17 ({ n := 30, t := PT.ofList 0 (PT.nil 8) vsA357, defers := [] }) stA355.st (.tuple #[.int .i64 4, .int .i64 0]) stA510.st := triFin_hds (k := 1) (L1 := stA358) (hihA hK) (by kernel_rfl) runA359 (tA513 hK)
theorem tA515 {W : World} (hK : KA W) : TC W 17 vsA357 stA355.st (.tuple #[.int .i64 4, .int .i64 0]) stA510.st := callT_fin Tryz.func17 bdA17 (by kernel_rfl) (n := 30) (by kernel_rfl) (by kernel_rfl) (tA514 hK)
theorem tA520 {W : World} (hK : KA W) : TX W pA201 stA352.act stA352.st .normal stA518 := by
  refine tx_region (by kernel_rfl) ?_
  refine triOps_cut (i := 0) (j := 1) (L1 := stA355) (hihA hK) (by kernel_rfl) runA356 (by kernel_rfl) ?_
  refine triOps_call (i := 1) (f := 17) (fi := #[]) (ca := #[]) (v := .tuple #[.int .i64 4, .int .i64 0]) (L0 := stA355) (Lc := stA510) (L1 := stA516) rfl rfl (by kernel_rfl) (by kernel_rfl) (by kernel_rfl) (by kernel_rfl) (tA515 hK) runA517 ?_
  exact triOps_end (i := 2) (L1 := stA518) (hihA hK) runA519 (by kernel_rfl)
theorem tA523 {W : World} (hK : KA W) : TF W Tryz.f19 pA240 stA518.act stA518.st (vt) stA521.st := triFin_code (hihA hK) runA522
theorem tA524 {W : World} (hK : KA W) : TF W Tryz.f19 pA200 stA352.act stA352.st (vt) stA521.st := tf_seq (by kernel_rfl) (tA520 hK) (tA523 hK)
theorem tA525 {W : World} (hK : KA W) : TF W Tryz.f19 pA0 stA1.act stA1.st (vt) stA521.st := tf_seq (by kernel_rfl) (tA354 hK) (tA524 hK)
theorem tA526 {W : World} (hK : KA W) : TF W Tryz.f19 cdA19 ({ n := 31, t := PT.ofList 0 (PT.nil 8) vsA0, defers := [] }) start0 (vt) stA521.st := triFin_hds (k := 1) (L1 := stA1) (hihA hK) (by kernel_rfl) runA2 (tA525 hK)
theorem tA527 {W : World} (hK : KA W) : TC W 19 vsA0 start0 (vt) stA521.st := callT_fin Tryz.func19 bdA19 (by kernel_rfl) (n := 31) (by kernel_rfl) (by kernel_rfl) (tA526 hK)
theorem tM20 {W : World} (hK : KM W) : TF W Tryz.f6 pM13 stM16.act stM16.st (vvM19) stM18.st := triFin_code (hihM hK) runM19
theorem tM21 {W : World} (hK : KM W) : TF W Tryz.f6 cdM6 ({ n := 66, t := PT.ofList 0 (PT.nil 8) vsM15, defers := [] }) stM13.st (vvM19) stM18.st := triFin_hds (k := 4) (L1 := stM16) (hihM hK) (by kernel_rfl) runM17 (tM20 hK)
theorem tM22 {W : World} (hK : KM W) : TC W 6 vsM15 stM13.st (vvM19) stM18.st := callT_fin Tryz.func6 bdM6 (by kernel_rfl) (n := 66) (by kernel_rfl) (by kernel_rfl) (tM21 hK)
theorem tM27 {W : World} (hK : KM W) : TX W pM9 stM11.act stM11.st .normal stM25 := by
  refine tx_region (by kernel_rfl) ?_
  refine triOps_cut (i := 0) (j := 1) (L1 := stM13) (hihM hK) (by kernel_rfl) runM14 (by kernel_rfl) ?_
  refine triOps_call (i := 1) (f := 6) (fi := #[]) (ca := #[]) (v := vvM19) (L0 := stM13) (Lc := stM18) (L1 := stM23) rfl rfl (by kernel_rfl) (by kernel_rfl) (by kernel_rfl) (by kernel_rfl) (tM22 hK) runM24 ?_
  exact triOps_end (i := 2) (L1 := stM25) (hihM hK) runM26 (by kernel_rfl)
theorem tM30 {W : World} (hK : KM W) : TF W Tryz.f26 pM20 stM25.act stM25.st (vvM22) stM28.st := triFin_code (hihM hK) runM29
theorem tM31 {W : World} (hK : KM W) : TF W Tryz.f26 pM8 stM11.act stM11.st (vvM22) stM28.st := tf_seq (by kernel_rfl) (tM27 hK) (tM30 hK)
theorem tM32 {W : World} (hK : KM W) : TF W Tryz.f26 cdM26 ({ n := 42, t := PT.ofList 0 (PT.nil 8) vsM10, defers := [] }) stM8.st (vvM22) stM28.st := triFin_hds (k := 1) (L1 := stM11) (hihM hK) (by kernel_rfl) runM12 (tM31 hK)
theorem tM33 {W : World} (hK : KM W) : TC W 26 vsM10 stM8.st (vvM22) stM28.st := callT_fin Tryz.func26 bdM26 (by kernel_rfl) (n := 42) (by kernel_rfl) (by kernel_rfl) (tM32 hK)
theorem tM38 {W : World} (hK : KM W) : TX W pM7 stM6.act stM6.st .normal stM36 := by
  refine tx_region (by kernel_rfl) ?_
  refine triOps_cut (i := 0) (j := 1) (L1 := stM8) (hihM hK) (by kernel_rfl) runM9 (by kernel_rfl) ?_
  refine triOps_call (i := 1) (f := 26) (fi := #[]) (ca := #[]) (v := vvM22) (L0 := stM8) (Lc := stM28) (L1 := stM34) rfl rfl (by kernel_rfl) (by kernel_rfl) (by kernel_rfl) (by kernel_rfl) (tM33 hK) runM35 ?_
  exact triOps_end (i := 2) (L1 := stM36) (hihM hK) runM37 (by kernel_rfl)
theorem tM41 {W : World} (hK : KM W) : TF W Tryz.f28 pM23 stM36.act stM36.st (vvM25) stM39.st := triFin_code (hihM hK) runM40
theorem tM42 {W : World} (hK : KM W) : TF W Tryz.f28 pM6 stM6.act stM6.st (vvM25) stM39.st := tf_seq (by kernel_rfl) (tM38 hK) (tM41 hK)
theorem tM43 {W : World} (hK : KM W) : TF W Tryz.f28 cdM28 ({ n := 45, t := PT.ofList 0 (PT.nil 8) vsM5, defers := [] }) stM3.st (vvM25) stM39.st := triFin_hds (k := 1) (L1 := stM6) (hihM hK) (by kernel_rfl) runM7 (tM42 hK)
theorem tM44 {W : World} (hK : KM W) : TC W 28 vsM5 stM3.st (vvM25) stM39.st := callT_fin Tryz.func28 bdM28 (by kernel_rfl) (n := 45) (by kernel_rfl) (by kernel_rfl) (tM43 hK)
theorem tM49 {W : World} (hK : KM W) : TX W pM5 stM1.act stM1.st .normal stM47 := by
  refine tx_region (by kernel_rfl) ?_
  refine triOps_cut (i := 0) (j := 1) (L1 := stM3) (hihM hK) (by kernel_rfl) runM4 (by kernel_rfl) ?_
  refine triOps_call (i := 1) (f := 28) (fi := #[]) (ca := #[]) (v := vvM25) (L0 := stM3) (Lc := stM39) (L1 := stM45) rfl rfl (by kernel_rfl) (by kernel_rfl) (by kernel_rfl) (by kernel_rfl) (tM44 hK) runM46 ?_
  exact triOps_end (i := 2) (L1 := stM47) (hihM hK) runM48 (by kernel_rfl)
theorem tM52 {W : World} (hK : KM W) : TF W Tryz.f12 pM26 stM47.act stM47.st (vt) stM50.st := triFin_code (hihM hK) runM51
theorem tM53 {W : World} (hK : KM W) : TF W Tryz.f12 pM4 stM1.act stM1.st (vt) stM50.st := tf_seq (by kernel_rfl) (tM49 hK) (tM52 hK)
theorem tM54 {W : World} (hK : KM W) : TF W Tryz.f12 cdM12 ({ n := 20, t := PT.ofList 0 (PT.nil 8) vsM0, defers := [] }) (addAll start0 mbM0) (vt) stM50.st := triFin_hds (k := 1) (L1 := stM1) (hihM hK) (by kernel_rfl) runM2 (tM53 hK)
theorem tM55 {W : World} (hK : KM W) : TC W 12 vsM0 (addAll start0 mbM0) (vt) stM50.st := callT_fin Tryz.func12 bdM12 (by kernel_rfl) (n := 20) (by kernel_rfl) (by kernel_rfl) (tM54 hK)
theorem tM76 {W : World} (hK : KM W) : TF W Tryz.f6 pM13 stM72.act stM72.st (vvM34) stM74.st := triFin_code (hihM hK) runM75
theorem tM77 {W : World} (hK : KM W) : TF W Tryz.f6 cdM6 ({ n := 66, t := PT.ofList 0 (PT.nil 8) vsM71, defers := [] }) stM69.st (vvM34) stM74.st := triFin_hds (k := 4) (L1 := stM72) (hihM hK) (by kernel_rfl) runM73 (tM76 hK)
theorem tM78 {W : World} (hK : KM W) : TC W 6 vsM71 stM69.st (vvM34) stM74.st := callT_fin Tryz.func6 bdM6 (by kernel_rfl) (n := 66) (by kernel_rfl) (by kernel_rfl) (tM77 hK)
theorem tM83 {W : World} (hK : KM W) : TX W pM9 stM67.act stM67.st .normal stM81 := by
  refine tx_region (by kernel_rfl) ?_
  refine triOps_cut (i := 0) (j := 1) (L1 := stM69) (hihM hK) (by kernel_rfl) runM70 (by kernel_rfl) ?_
  refine triOps_call (i := 1) (f := 6) (fi := #[]) (ca := #[]) (v := vvM34) (L0 := stM69) (Lc := stM74) (L1 := stM79) rfl rfl (by kernel_rfl) (by kernel_rfl) (by kernel_rfl) (by kernel_rfl) (tM78 hK) runM80 ?_
  exact triOps_end (i := 2) (L1 := stM81) (hihM hK) runM82 (by kernel_rfl)
theorem tM86 {W : World} (hK : KM W) : TF W Tryz.f26 pM20 stM81.act stM81.st (vvM36) stM84.st := triFin_code (hihM hK) runM85
theorem tM87 {W : World} (hK : KM W) : TF W Tryz.f26 pM8 stM67.act stM67.st (vvM36) stM84.st := tf_seq (by kernel_rfl) (tM83 hK) (tM86 hK)
theorem tM88 {W : World} (hK : KM W) : TF W Tryz.f26 cdM26 ({ n := 42, t := PT.ofList 0 (PT.nil 8) vsM66, defers := [] }) stM64.st (vvM36) stM84.st := triFin_hds (k := 1) (L1 := stM67) (hihM hK) (by kernel_rfl) runM68 (tM87 hK)
theorem tM89 {W : World} (hK : KM W) : TC W 26 vsM66 stM64.st (vvM36) stM84.st := callT_fin Tryz.func26 bdM26 (by kernel_rfl) (n := 42) (by kernel_rfl) (by kernel_rfl) (tM88 hK)
theorem tM94 {W : World} (hK : KM W) : TX W pM7 stM62.act stM62.st .normal stM92 := by
  refine tx_region (by kernel_rfl) ?_
  refine triOps_cut (i := 0) (j := 1) (L1 := stM64) (hihM hK) (by kernel_rfl) runM65 (by kernel_rfl) ?_
  refine triOps_call (i := 1) (f := 26) (fi := #[]) (ca := #[]) (v := vvM36) (L0 := stM64) (Lc := stM84) (L1 := stM90) rfl rfl (by kernel_rfl) (by kernel_rfl) (by kernel_rfl) (by kernel_rfl) (tM89 hK) runM91 ?_
  exact triOps_end (i := 2) (L1 := stM92) (hihM hK) runM93 (by kernel_rfl)
theorem tM97 {W : World} (hK : KM W) : TF W Tryz.f28 pM23 stM92.act stM92.st (vvM38) stM95.st := triFin_code (hihM hK) runM96
theorem tM98 {W : World} (hK : KM W) : TF W Tryz.f28 pM6 stM62.act stM62.st (vvM38) stM95.st := tf_seq (by kernel_rfl) (tM94 hK) (tM97 hK)
theorem tM99 {W : World} (hK : KM W) : TF W Tryz.f28 cdM28 ({ n := 45, t := PT.ofList 0 (PT.nil 8) vsM61, defers := [] }) stM59.st (vvM38) stM95.st := triFin_hds (k := 1) (L1 := stM62) (hihM hK) (by kernel_rfl) runM63 (tM98 hK)
theorem tM100 {W : World} (hK : KM W) : TC W 28 vsM61 stM59.st (vvM38) stM95.st := callT_fin Tryz.func28 bdM28 (by kernel_rfl) (n := 45) (by kernel_rfl) (by kernel_rfl) (tM99 hK)
theorem tM105 {W : World} (hK : KM W) : TX W pM5 stM57.act stM57.st .normal stM103 := by
  refine tx_region (by kernel_rfl) ?_
  refine triOps_cut (i := 0) (j := 1) (L1 := stM59) (hihM hK) (by kernel_rfl) runM60 (by kernel_rfl) ?_
  refine triOps_call (i := 1) (f := 28) (fi := #[]) (ca := #[]) (v := vvM38) (L0 := stM59) (Lc := stM95) (L1 := stM101) rfl rfl (by kernel_rfl) (by kernel_rfl) (by kernel_rfl) (by kernel_rfl) (tM100 hK) runM102 ?_
  exact triOps_end (i := 2) (L1 := stM103) (hihM hK) runM104 (by kernel_rfl)
theorem tM108 {W : World} (hK : KM W) : TF W Tryz.f12 pM26 stM103.act stM103.st (vt) stM106.st := triFin_code (hihM hK) runM107
theorem tM109 {W : World} (hK : KM W) : TF W Tryz.f12 pM4 stM57.act stM57.st (vt) stM106.st := tf_seq (by kernel_rfl) (tM105 hK) (tM108 hK)
theorem tM110 {W : World} (hK : KM W) : TF W Tryz.f12 cdM12 ({ n := 20, t := PT.ofList 0 (PT.nil 8) vsM56, defers := [] }) (addAll start0 mbM1) (vt) stM106.st := triFin_hds (k := 1) (L1 := stM57) (hihM hK) (by kernel_rfl) runM58 (tM109 hK)
theorem tM111 {W : World} (hK : KM W) : TC W 12 vsM56 (addAll start0 mbM1) (vt) stM106.st := callT_fin Tryz.func12 bdM12 (by kernel_rfl) (n := 20) (by kernel_rfl) (by kernel_rfl) (tM110 hK)
theorem tM115 {W : World} (hK : KM W) : TF W Tryz.f12 cdM12 ({ n := 20, t := PT.ofList 0 (PT.nil 8) vsM112, defers := [] }) (addAll start0 mbM2) (vt) stM113.st := triFin_code (hihM hK) runM114
theorem tM116 {W : World} (hK : KM W) : TC W 12 vsM112 (addAll start0 mbM2) (vt) stM113.st := callT_fin Tryz.func12 bdM12 (by kernel_rfl) (n := 20) (by kernel_rfl) (by kernel_rfl) (tM115 hK)
theorem tB48 {W : World} (hK : KB W) : TF W Tryz.f55 pB64 stB44.act stB44.st (vvB70) stB46.st := triFin_code (hihB hK) runB47
theorem tB49 {W : World} (hK : KB W) : TF W Tryz.f55 cdB55 ({ n := 62, t := PT.ofList 0 (PT.nil 8) vsB43, defers := [] }) stB41.st (vvB70) stB46.st := triFin_hds (k := 3) (L1 := stB44) (hihB hK) (by kernel_rfl) runB45 (tB48 hK)
theorem tB50 {W : World} (hK : KB W) : TC W 55 vsB43 stB41.st (vvB70) stB46.st := callT_fin Tryz.func55 bdB55 (by kernel_rfl) (n := 62) (by kernel_rfl) (by kernel_rfl) (tB49 hK)
theorem tB55 {W : World} (hK : KB W) : TX W pB53 stB39.act stB39.st .normal stB53 := by
  refine tx_region (by kernel_rfl) ?_
  refine triOps_cut (i := 0) (j := 3) (L1 := stB41) (hihB hK) (by kernel_rfl) runB42 (by kernel_rfl) ?_
  refine triOps_call (i := 3) (f := 55) (fi := #[]) (ca := #[]) (v := vvB70) (L0 := stB41) (Lc := stB46) (L1 := stB51) rfl rfl (by kernel_rfl) (by kernel_rfl) (by kernel_rfl) (by kernel_rfl) (tB50 hK) runB52 ?_
  exact triOps_end (i := 4) (L1 := stB53) (hihB hK) runB54 (by kernel_rfl)
theorem tB58 {W : World} (hK : KB W) : TX W pB71 stB53.act stB53.st .normal stB56 := triX_code (hihB hK) runB57
theorem tB59 {W : World} (hK : KB W) : TX W pB52 stB39.act stB39.st .normal stB56 := tx_seq (by kernel_rfl) (tB55 hK) (tB58 hK)
theorem tB60 {W : World} (hK : KB W) : TX W pB51 stB37.act stB37.st .normal stB56 := triX_hds (k := 1) (L1 := stB39) (hihB hK) (by kernel_rfl) runB40 (tB59 hK)
theorem tB61 {W : World} (hK : KB W) : TX W pB50 stB37.act stB37.st .normal stB56 := tx_through (by kernel_rfl) (by kernel_rfl) (tB60 hK)
theorem tB64 {W : World} (hK : KB W) : TX W pB72 stB56.act stB56.st .normal stB62 := triX_code (hihB hK) runB63
theorem tB65 {W : World} (hK : KB W) : TX W pB49 stB37.act stB37.st .normal stB62 := tx_seq (by kernel_rfl) (tB61 hK) (tB64 hK)
theorem tB66 {W : World} (hK : KB W) : TX W pB48 stB35.act stB35.st .normal stB62 := triX_hds (k := 2) (L1 := stB37) (hihB hK) (by kernel_rfl) runB38 (tB65 hK)
theorem tB69 {W : World} (hK : KB W) : TX W pB48 stB62.act stB62.st (.exit 0) stB67 := triX_code (hihB hK) runB68
theorem tB70 {W : World} (hK : KB W) : TX W pB47 stB35.act stB35.st (.exit 0) stB67 := tx_loop (m := 1) (by kernel_rfl) rfl (.next (tB66 hK) (.last (tB69 hK)))
theorem tB71 {W : World} (hK : KB W) : TX W pB46 stB35.act stB35.st .normal stB67 := tx_block (by kernel_rfl) (tB70 hK)
theorem tB72 {W : World} (hK : KB W) : TX W pB45 stB33.act stB33.st .normal stB67 := triX_hds (k := 1) (L1 := stB35) (hihB hK) (by kernel_rfl) runB36 (tB71 hK)
theorem tB75 {W : World} (hK : KB W) : TF W Tryz.f36 pB73 stB67.act stB67.st (vvB79) stB73.st := triFin_code (hihB hK) runB74
theorem tB76 {W : World} (hK : KB W) : TF W Tryz.f36 pB44 stB33.act stB33.st (vvB79) stB73.st := tf_seq (by kernel_rfl) (tB72 hK) (tB75 hK)
theorem tB77 {W : World} (hK : KB W) : TF W Tryz.f36 cdB36 ({ n := 89, t := PT.ofList 0 (PT.nil 8) vsB32, defers := [] }) stB30.st (vvB79) stB73.st := triFin_hds (k := 7) (L1 := stB33) (hihB hK) (by kernel_rfl) runB34 (tB76 hK)
theorem tB78 {W : World} (hK : KB W) : TC W 36 vsB32 stB30.st (vvB79) stB73.st := callT_fin Tryz.func36 bdB36 (by kernel_rfl) (n := 89) (by kernel_rfl) (by kernel_rfl) (tB77 hK)
theorem tB83 {W : World} (hK : KB W) : TX W pB35 stB28.act stB28.st .normal stB81 := by
  refine tx_region (by kernel_rfl) ?_
  refine triOps_cut (i := 0) (j := 3) (L1 := stB30) (hihB hK) (by kernel_rfl) runB31 (by kernel_rfl) ?_
  refine triOps_call (i := 3) (f := 36) (fi := #[]) (ca := #[]) (v := vvB79) (L0 := stB30) (Lc := stB73) (L1 := stB79) rfl rfl (by kernel_rfl) (by kernel_rfl) (by kernel_rfl) (by kernel_rfl) (tB78 hK) runB80 ?_
  exact triOps_end (i := 4) (L1 := stB81) (hihB hK) runB82 (by kernel_rfl)
theorem tB86 {W : World} (hK : KB W) : TX W pB80 stB81.act stB81.st .normal stB84 := triX_code (hihB hK) runB85
theorem tB87 {W : World} (hK : KB W) : TX W pB34 stB28.act stB28.st .normal stB84 := tx_seq (by kernel_rfl) (tB83 hK) (tB86 hK)
theorem tB88 {W : World} (hK : KB W) : TX W pB33 stB26.act stB26.st .normal stB84 := triX_hds (k := 1) (L1 := stB28) (hihB hK) (by kernel_rfl) runB29 (tB87 hK)
theorem tB89 {W : World} (hK : KB W) : TX W pB32 stB26.act stB26.st .normal stB84 := tx_through (by kernel_rfl) (by kernel_rfl) (tB88 hK)
theorem tB92 {W : World} (hK : KB W) : TX W pB82 stB84.act stB84.st .normal stB90 := triX_code (hihB hK) runB91
theorem tB93 {W : World} (hK : KB W) : TX W pB31 stB26.act stB26.st .normal stB90 := tx_seq (by kernel_rfl) (tB89 hK) (tB92 hK)
theorem tB94 {W : World} (hK : KB W) : TX W pB30 stB24.act stB24.st .normal stB90 := triX_hds (k := 2) (L1 := stB26) (hihB hK) (by kernel_rfl) runB27 (tB93 hK)
theorem tB97 {W : World} (hK : KB W) : TX W pB30 stB90.act stB90.st (.exit 0) stB95 := triX_code (hihB hK) runB96
theorem tB98 {W : World} (hK : KB W) : TX W pB29 stB24.act stB24.st (.exit 0) stB95 := tx_loop (m := 1) (by kernel_rfl) rfl (.next (tB94 hK) (.last (tB97 hK)))
theorem tB99 {W : World} (hK : KB W) : TX W pB28 stB24.act stB24.st .normal stB95 := tx_block (by kernel_rfl) (tB98 hK)
theorem tB100 {W : World} (hK : KB W) : TX W pB27 stB22.act stB22.st .normal stB95 := triX_hds (k := 1) (L1 := stB24) (hihB hK) (by kernel_rfl) runB25 (tB99 hK)
theorem tB103 {W : World} (hK : KB W) : TF W Tryz.f23 pB83 stB95.act stB95.st (vvB84) stB101.st := triFin_code (hihB hK) runB102
theorem tB104 {W : World} (hK : KB W) : TF W Tryz.f23 pB26 stB22.act stB22.st (vvB84) stB101.st := tf_seq (by kernel_rfl) (tB100 hK) (tB103 hK)
theorem tB105 {W : World} (hK : KB W) : TF W Tryz.f23 cdB23 ({ n := 46, t := PT.ofList 0 (PT.nil 8) vsB21, defers := [] }) stB19.st (vvB84) stB101.st := triFin_hds (k := 4) (L1 := stB22) (hihB hK) (by kernel_rfl) runB23 (tB104 hK)
theorem tB106 {W : World} (hK : KB W) : TC W 23 vsB21 stB19.st (vvB84) stB101.st := callT_fin Tryz.func23 bdB23 (by kernel_rfl) (n := 46) (by kernel_rfl) (by kernel_rfl) (tB105 hK)
theorem tB111 {W : World} (hK : KB W) : TX W pB25 stB17.act stB17.st .normal stB109 := by
  refine tx_region (by kernel_rfl) ?_
  refine triOps_cut (i := 0) (j := 2) (L1 := stB19) (hihB hK) (by kernel_rfl) runB20 (by kernel_rfl) ?_
  refine triOps_call (i := 2) (f := 23) (fi := #[]) (ca := #[]) (v := vvB84) (L0 := stB19) (Lc := stB101) (L1 := stB107) rfl rfl (by kernel_rfl) (by kernel_rfl) (by kernel_rfl) (by kernel_rfl) (tB106 hK) runB108 ?_
  exact triOps_end (i := 3) (L1 := stB109) (hihB hK) runB110 (by kernel_rfl)
theorem tB114 {W : World} (hK : KB W) : TF W Tryz.f22 pB85 stB109.act stB109.st (.tuple #[.int .i64 2, .int .i64 0]) stB112.st := triFin_code (hihB hK) runB113
theorem tB115 {W : World} (hK : KB W) : TF W Tryz.f22 pB24 stB17.act stB17.st (.tuple #[.int .i64 2, .int .i64 0]) stB112.st := tf_seq (by kernel_rfl) (tB111 hK) (tB114 hK)
theorem tB116 {W : World} (hK : KB W) : TF W Tryz.f22 cdB22 ({ n := 17, t := PT.ofList 0 (PT.nil 8) vsB16, defers := [] }) stB14.st (.tuple #[.int .i64 2, .int .i64 0]) stB112.st := triFin_hds (k := 1) (L1 := stB17) (hihB hK) (by kernel_rfl) runB18 (tB115 hK)
theorem tB117 {W : World} (hK : KB W) : TC W 22 vsB16 stB14.st (.tuple #[.int .i64 2, .int .i64 0]) stB112.st := callT_fin Tryz.func22 bdB22 (by kernel_rfl) (n := 17) (by kernel_rfl) (by kernel_rfl) (tB116 hK)
theorem tB122 {W : World} (hK : KB W) : TX W pB21 stB12.act stB12.st .normal stB120 := by
  refine tx_region (by kernel_rfl) ?_
  refine triOps_cut (i := 0) (j := 3) (L1 := stB14) (hihB hK) (by kernel_rfl) runB15 (by kernel_rfl) ?_
  refine triOps_call (i := 3) (f := 22) (fi := #[]) (ca := #[]) (v := .tuple #[.int .i64 2, .int .i64 0]) (L0 := stB14) (Lc := stB112) (L1 := stB118) rfl rfl (by kernel_rfl) (by kernel_rfl) (by kernel_rfl) (by kernel_rfl) (tB117 hK) runB119 ?_
  exact triOps_end (i := 4) (L1 := stB120) (hihB hK) runB121 (by kernel_rfl)
theorem tB125 {W : World} (hK : KB W) : TX W pB86 stB120.act stB120.st .normal stB123 := triX_code (hihB hK) runB124
theorem tB126 {W : World} (hK : KB W) : TX W pB20 stB12.act stB12.st .normal stB123 := tx_seq (by kernel_rfl) (tB122 hK) (tB125 hK)
theorem tB127 {W : World} (hK : KB W) : TX W pB14 stB10.act stB10.st .normal stB123 := triX_hds (k := 2) (L1 := stB12) (hihB hK) (by kernel_rfl) runB13 (tB126 hK)
theorem tB128 {W : World} (hK : KB W) : TX W pB13 stB10.act stB10.st .normal stB123 := tx_through (by kernel_rfl) (by kernel_rfl) (tB127 hK)
theorem tB131 {W : World} (hK : KB W) : TX W pB88 stB123.act stB123.st .normal stB129 := triX_code (hihB hK) runB130
theorem tB132 {W : World} (hK : KB W) : TX W pB12 stB10.act stB10.st .normal stB129 := tx_seq (by kernel_rfl) (tB128 hK) (tB131 hK)
theorem tB133 {W : World} (hK : KB W) : TX W pB11 stB8.act stB8.st .normal stB129 := triX_hds (k := 2) (L1 := stB10) (hihB hK) (by kernel_rfl) runB11 (tB132 hK)
theorem tB138 {W : World} (hK : KB W) : TX W pB11 stB134.act stB134.st (.exit 0) stB136 := triX_code (hihB hK) runB137
theorem tB139 {W : World} (hK : KB W) : TX W pB10 stB8.act stB8.st (.exit 0) stB136 := tx_loop (m := 3) (by kernel_rfl) rfl (.next (tB133 hK) (rounds_run (hihB hK) runB135 (.last (tB138 hK))))
theorem tB140 {W : World} (hK : KB W) : TX W pB9 stB8.act stB8.st .normal stB136 := tx_block (by kernel_rfl) (tB139 hK)
theorem tB141 {W : World} (hK : KB W) : TX W pB8 stB6.act stB6.st .normal stB136 := triX_hds (k := 1) (L1 := stB8) (hihB hK) (by kernel_rfl) runB9 (tB140 hK)
theorem tB144 {W : World} (hK : KB W) : TF W Tryz.f4 pB96 stB136.act stB136.st (vvB97) stB142.st := triFin_code (hihB hK) runB143
theorem tB145 {W : World} (hK : KB W) : TF W Tryz.f4 pB7 stB6.act stB6.st (vvB97) stB142.st := tf_seq (by kernel_rfl) (tB141 hK) (tB144 hK)
theorem tB146 {W : World} (hK : KB W) : TF W Tryz.f4 cdB4 ({ n := 52, t := PT.ofList 0 (PT.nil 8) vsB5, defers := [] }) stB3.st (vvB97) stB142.st := triFin_hds (k := 4) (L1 := stB6) (hihB hK) (by kernel_rfl) runB7 (tB145 hK)
theorem tB147 {W : World} (hK : KB W) : TC W 4 vsB5 stB3.st (vvB97) stB142.st := callT_fin Tryz.func4 bdB4 (by kernel_rfl) (n := 52) (by kernel_rfl) (by kernel_rfl) (tB146 hK)
theorem tB152 {W : World} (hK : KB W) : TX W pB1 stB1.act stB1.st .normal stB150 := by
  refine tx_region (by kernel_rfl) ?_
  refine triOps_cut (i := 0) (j := 1) (L1 := stB3) (hihB hK) (by kernel_rfl) runB4 (by kernel_rfl) ?_
  refine triOps_call (i := 1) (f := 4) (fi := #[]) (ca := #[]) (v := vvB97) (L0 := stB3) (Lc := stB142) (L1 := stB148) rfl rfl (by kernel_rfl) (by kernel_rfl) (by kernel_rfl) (by kernel_rfl) (tB147 hK) runB149 ?_
  exact triOps_end (i := 2) (L1 := stB150) (hihB hK) runB151 (by kernel_rfl)
theorem tB208 {W : World} (hK : KB W) : TF W Tryz.f55 pB64 stB204.act stB204.st (vvB128) stB206.st := triFin_code (hihB hK) runB207
theorem tB209 {W : World} (hK : KB W) : TF W Tryz.f55 cdB55 ({ n := 62, t := PT.ofList 0 (PT.nil 8) vsB203, defers := [] }) stB201.st (vvB128) stB206.st := triFin_hds (k := 3) (L1 := stB204) (hihB hK) (by kernel_rfl) runB205 (tB208 hK)
theorem tB210 {W : World} (hK : KB W) : TC W 55 vsB203 stB201.st (vvB128) stB206.st := callT_fin Tryz.func55 bdB55 (by kernel_rfl) (n := 62) (by kernel_rfl) (by kernel_rfl) (tB209 hK)
theorem tB215 {W : World} (hK : KB W) : TX W pB53 stB199.act stB199.st .normal stB213 := by
  refine tx_region (by kernel_rfl) ?_
  refine triOps_cut (i := 0) (j := 3) (L1 := stB201) (hihB hK) (by kernel_rfl) runB202 (by kernel_rfl) ?_
  refine triOps_call (i := 3) (f := 55) (fi := #[]) (ca := #[]) (v := vvB128) (L0 := stB201) (Lc := stB206) (L1 := stB211) rfl rfl (by kernel_rfl) (by kernel_rfl) (by kernel_rfl) (by kernel_rfl) (tB210 hK) runB212 ?_
  exact triOps_end (i := 4) (L1 := stB213) (hihB hK) runB214 (by kernel_rfl)
theorem tB218 {W : World} (hK : KB W) : TX W pB71 stB213.act stB213.st .normal stB216 := triX_code (hihB hK) runB217
theorem tB219 {W : World} (hK : KB W) : TX W pB52 stB199.act stB199.st .normal stB216 := tx_seq (by kernel_rfl) (tB215 hK) (tB218 hK)
theorem tB220 {W : World} (hK : KB W) : TX W pB51 stB197.act stB197.st .normal stB216 := triX_hds (k := 1) (L1 := stB199) (hihB hK) (by kernel_rfl) runB200 (tB219 hK)
theorem tB221 {W : World} (hK : KB W) : TX W pB50 stB197.act stB197.st .normal stB216 := tx_through (by kernel_rfl) (by kernel_rfl) (tB220 hK)
theorem tB224 {W : World} (hK : KB W) : TX W pB72 stB216.act stB216.st .normal stB222 := triX_code (hihB hK) runB223
theorem tB225 {W : World} (hK : KB W) : TX W pB49 stB197.act stB197.st .normal stB222 := tx_seq (by kernel_rfl) (tB221 hK) (tB224 hK)
theorem tB226 {W : World} (hK : KB W) : TX W pB48 stB195.act stB195.st .normal stB222 := triX_hds (k := 2) (L1 := stB197) (hihB hK) (by kernel_rfl) runB198 (tB225 hK)
theorem tB229 {W : World} (hK : KB W) : TX W pB48 stB222.act stB222.st (.exit 0) stB227 := triX_code (hihB hK) runB228
theorem tB230 {W : World} (hK : KB W) : TX W pB47 stB195.act stB195.st (.exit 0) stB227 := tx_loop (m := 1) (by kernel_rfl) rfl (.next (tB226 hK) (.last (tB229 hK)))
theorem tB231 {W : World} (hK : KB W) : TX W pB46 stB195.act stB195.st .normal stB227 := tx_block (by kernel_rfl) (tB230 hK)
theorem tB232 {W : World} (hK : KB W) : TX W pB45 stB193.act stB193.st .normal stB227 := triX_hds (k := 1) (L1 := stB195) (hihB hK) (by kernel_rfl) runB196 (tB231 hK)
theorem tB235 {W : World} (hK : KB W) : TF W Tryz.f36 pB73 stB227.act stB227.st (vvB134) stB233.st := triFin_code (hihB hK) runB234
theorem tB236 {W : World} (hK : KB W) : TF W Tryz.f36 pB44 stB193.act stB193.st (vvB134) stB233.st := tf_seq (by kernel_rfl) (tB232 hK) (tB235 hK)
theorem tB237 {W : World} (hK : KB W) : TF W Tryz.f36 cdB36 ({ n := 89, t := PT.ofList 0 (PT.nil 8) vsB192, defers := [] }) stB190.st (vvB134) stB233.st := triFin_hds (k := 7) (L1 := stB193) (hihB hK) (by kernel_rfl) runB194 (tB236 hK)
theorem tB238 {W : World} (hK : KB W) : TC W 36 vsB192 stB190.st (vvB134) stB233.st := callT_fin Tryz.func36 bdB36 (by kernel_rfl) (n := 89) (by kernel_rfl) (by kernel_rfl) (tB237 hK)
theorem tB243 {W : World} (hK : KB W) : TX W pB35 stB188.act stB188.st .normal stB241 := by
  refine tx_region (by kernel_rfl) ?_
  refine triOps_cut (i := 0) (j := 3) (L1 := stB190) (hihB hK) (by kernel_rfl) runB191 (by kernel_rfl) ?_
  refine triOps_call (i := 3) (f := 36) (fi := #[]) (ca := #[]) (v := vvB134) (L0 := stB190) (Lc := stB233) (L1 := stB239) rfl rfl (by kernel_rfl) (by kernel_rfl) (by kernel_rfl) (by kernel_rfl) (tB238 hK) runB240 ?_
  exact triOps_end (i := 4) (L1 := stB241) (hihB hK) runB242 (by kernel_rfl)
theorem tB246 {W : World} (hK : KB W) : TX W pB80 stB241.act stB241.st .normal stB244 := triX_code (hihB hK) runB245
theorem tB247 {W : World} (hK : KB W) : TX W pB34 stB188.act stB188.st .normal stB244 := tx_seq (by kernel_rfl) (tB243 hK) (tB246 hK)
theorem tB248 {W : World} (hK : KB W) : TX W pB33 stB186.act stB186.st .normal stB244 := triX_hds (k := 1) (L1 := stB188) (hihB hK) (by kernel_rfl) runB189 (tB247 hK)
theorem tB249 {W : World} (hK : KB W) : TX W pB32 stB186.act stB186.st .normal stB244 := tx_through (by kernel_rfl) (by kernel_rfl) (tB248 hK)
theorem tB252 {W : World} (hK : KB W) : TX W pB82 stB244.act stB244.st .normal stB250 := triX_code (hihB hK) runB251
theorem tB253 {W : World} (hK : KB W) : TX W pB31 stB186.act stB186.st .normal stB250 := tx_seq (by kernel_rfl) (tB249 hK) (tB252 hK)
theorem tB254 {W : World} (hK : KB W) : TX W pB30 stB184.act stB184.st .normal stB250 := triX_hds (k := 2) (L1 := stB186) (hihB hK) (by kernel_rfl) runB187 (tB253 hK)
theorem tB257 {W : World} (hK : KB W) : TX W pB30 stB250.act stB250.st (.exit 0) stB255 := triX_code (hihB hK) runB256
theorem tB258 {W : World} (hK : KB W) : TX W pB29 stB184.act stB184.st (.exit 0) stB255 := tx_loop (m := 1) (by kernel_rfl) rfl (.next (tB254 hK) (.last (tB257 hK)))
theorem tB259 {W : World} (hK : KB W) : TX W pB28 stB184.act stB184.st .normal stB255 := tx_block (by kernel_rfl) (tB258 hK)
theorem tB260 {W : World} (hK : KB W) : TX W pB27 stB182.act stB182.st .normal stB255 := triX_hds (k := 1) (L1 := stB184) (hihB hK) (by kernel_rfl) runB185 (tB259 hK)
theorem tB263 {W : World} (hK : KB W) : TF W Tryz.f23 pB83 stB255.act stB255.st (vvB136) stB261.st := triFin_code (hihB hK) runB262
theorem tB264 {W : World} (hK : KB W) : TF W Tryz.f23 pB26 stB182.act stB182.st (vvB136) stB261.st := tf_seq (by kernel_rfl) (tB260 hK) (tB263 hK)
theorem tB265 {W : World} (hK : KB W) : TF W Tryz.f23 cdB23 ({ n := 46, t := PT.ofList 0 (PT.nil 8) vsB181, defers := [] }) stB179.st (vvB136) stB261.st := triFin_hds (k := 4) (L1 := stB182) (hihB hK) (by kernel_rfl) runB183 (tB264 hK)
theorem tB266 {W : World} (hK : KB W) : TC W 23 vsB181 stB179.st (vvB136) stB261.st := callT_fin Tryz.func23 bdB23 (by kernel_rfl) (n := 46) (by kernel_rfl) (by kernel_rfl) (tB265 hK)
theorem tB271 {W : World} (hK : KB W) : TX W pB25 stB177.act stB177.st .normal stB269 := by
  refine tx_region (by kernel_rfl) ?_
  refine triOps_cut (i := 0) (j := 2) (L1 := stB179) (hihB hK) (by kernel_rfl) runB180 (by kernel_rfl) ?_
  refine triOps_call (i := 2) (f := 23) (fi := #[]) (ca := #[]) (v := vvB136) (L0 := stB179) (Lc := stB261) (L1 := stB267) rfl rfl (by kernel_rfl) (by kernel_rfl) (by kernel_rfl) (by kernel_rfl) (tB266 hK) runB268 ?_
  exact triOps_end (i := 3) (L1 := stB269) (hihB hK) runB270 (by kernel_rfl)
theorem tB274 {W : World} (hK : KB W) : TF W Tryz.f22 pB85 stB269.act stB269.st (.tuple #[.int .i64 2, .int .i64 0]) stB272.st := triFin_code (hihB hK) runB273
theorem tB275 {W : World} (hK : KB W) : TF W Tryz.f22 pB24 stB177.act stB177.st (.tuple #[.int .i64 2, .int .i64 0]) stB272.st := tf_seq (by kernel_rfl) (tB271 hK) (tB274 hK)
theorem tB276 {W : World} (hK : KB W) : TF W Tryz.f22 cdB22 ({ n := 17, t := PT.ofList 0 (PT.nil 8) vsB176, defers := [] }) stB174.st (.tuple #[.int .i64 2, .int .i64 0]) stB272.st := triFin_hds (k := 1) (L1 := stB177) (hihB hK) (by kernel_rfl) runB178 (tB275 hK)
theorem tB277 {W : World} (hK : KB W) : TC W 22 vsB176 stB174.st (.tuple #[.int .i64 2, .int .i64 0]) stB272.st := callT_fin Tryz.func22 bdB22 (by kernel_rfl) (n := 17) (by kernel_rfl) (by kernel_rfl) (tB276 hK)
theorem tB282 {W : World} (hK : KB W) : TX W pB21 stB172.act stB172.st .normal stB280 := by
  refine tx_region (by kernel_rfl) ?_
  refine triOps_cut (i := 0) (j := 3) (L1 := stB174) (hihB hK) (by kernel_rfl) runB175 (by kernel_rfl) ?_
  refine triOps_call (i := 3) (f := 22) (fi := #[]) (ca := #[]) (v := .tuple #[.int .i64 2, .int .i64 0]) (L0 := stB174) (Lc := stB272) (L1 := stB278) rfl rfl (by kernel_rfl) (by kernel_rfl) (by kernel_rfl) (by kernel_rfl) (tB277 hK) runB279 ?_
  exact triOps_end (i := 4) (L1 := stB280) (hihB hK) runB281 (by kernel_rfl)
theorem tB285 {W : World} (hK : KB W) : TX W pB86 stB280.act stB280.st .normal stB283 := triX_code (hihB hK) runB284
theorem tB286 {W : World} (hK : KB W) : TX W pB20 stB172.act stB172.st .normal stB283 := tx_seq (by kernel_rfl) (tB282 hK) (tB285 hK)
theorem tB287 {W : World} (hK : KB W) : TX W pB14 stB170.act stB170.st .normal stB283 := triX_hds (k := 2) (L1 := stB172) (hihB hK) (by kernel_rfl) runB173 (tB286 hK)
theorem tB288 {W : World} (hK : KB W) : TX W pB13 stB170.act stB170.st .normal stB283 := tx_through (by kernel_rfl) (by kernel_rfl) (tB287 hK)
theorem tB291 {W : World} (hK : KB W) : TX W pB88 stB283.act stB283.st .normal stB289 := triX_code (hihB hK) runB290
theorem tB292 {W : World} (hK : KB W) : TX W pB12 stB170.act stB170.st .normal stB289 := tx_seq (by kernel_rfl) (tB288 hK) (tB291 hK)
theorem tB293 {W : World} (hK : KB W) : TX W pB11 stB168.act stB168.st .normal stB289 := triX_hds (k := 2) (L1 := stB170) (hihB hK) (by kernel_rfl) runB171 (tB292 hK)
theorem tB298 {W : World} (hK : KB W) : TX W pB11 stB294.act stB294.st (.exit 0) stB296 := triX_code (hihB hK) runB297
theorem tB299 {W : World} (hK : KB W) : TX W pB10 stB168.act stB168.st (.exit 0) stB296 := tx_loop (m := 3) (by kernel_rfl) rfl (.next (tB293 hK) (rounds_run (hihB hK) runB295 (.last (tB298 hK))))
theorem tB300 {W : World} (hK : KB W) : TX W pB9 stB168.act stB168.st .normal stB296 := tx_block (by kernel_rfl) (tB299 hK)
theorem tB301 {W : World} (hK : KB W) : TX W pB8 stB166.act stB166.st .normal stB296 := triX_hds (k := 1) (L1 := stB168) (hihB hK) (by kernel_rfl) runB169 (tB300 hK)
theorem tB304 {W : World} (hK : KB W) : TF W Tryz.f4 pB96 stB296.act stB296.st (vvB142) stB302.st := triFin_code (hihB hK) runB303
theorem tB305 {W : World} (hK : KB W) : TF W Tryz.f4 pB7 stB166.act stB166.st (vvB142) stB302.st := tf_seq (by kernel_rfl) (tB301 hK) (tB304 hK)
theorem tB306 {W : World} (hK : KB W) : TF W Tryz.f4 cdB4 ({ n := 52, t := PT.ofList 0 (PT.nil 8) vsB165, defers := [] }) stB163.st (vvB142) stB302.st := triFin_hds (k := 4) (L1 := stB166) (hihB hK) (by kernel_rfl) runB167 (tB305 hK)
theorem tB307 {W : World} (hK : KB W) : TC W 4 vsB165 stB163.st (vvB142) stB302.st := callT_fin Tryz.func4 bdB4 (by kernel_rfl) (n := 52) (by kernel_rfl) (by kernel_rfl) (tB306 hK)
theorem tB312 {W : World} (hK : KB W) : TX W pB106 stB161.act stB161.st .normal stB310 := by
  refine tx_region (by kernel_rfl) ?_
  refine triOps_cut (i := 0) (j := 1) (L1 := stB163) (hihB hK) (by kernel_rfl) runB164 (by kernel_rfl) ?_
  refine triOps_call (i := 1) (f := 4) (fi := #[]) (ca := #[]) (v := vvB142) (L0 := stB163) (Lc := stB302) (L1 := stB308) rfl rfl (by kernel_rfl) (by kernel_rfl) (by kernel_rfl) (by kernel_rfl) (tB307 hK) runB309 ?_
  exact triOps_end (i := 2) (L1 := stB310) (hihB hK) runB311 (by kernel_rfl)
theorem tB315 {W : World} (hK : KB W) : TF W Tryz.f17 pB143 stB310.act stB310.st (.tuple #[.int .i64 4, .int .i64 0]) stB313.st := triFin_code (hihB hK) runB314
theorem tB316 {W : World} (hK : KB W) : TF W Tryz.f17 pB105 stB161.act stB161.st (.tuple #[.int .i64 4, .int .i64 0]) stB313.st := tf_seq (by kernel_rfl) (tB312 hK) (tB315 hK)
theorem tB317 {W : World} (hK : KB W) : TF W Tryz.f17 cdB17 ({ n := 30, t := PT.ofList 0 (PT.nil 8) vsB160, defers := [] }) stB158.st (.tuple #[.int .i64 4, .int .i64 0]) stB313.st := triFin_hds (k := 1) (L1 := stB161) (hihB hK) (by kernel_rfl) runB162 (tB316 hK)
theorem tB318 {W : World} (hK : KB W) : TC W 17 vsB160 stB158.st (.tuple #[.int .i64 4, .int .i64 0]) stB313.st := callT_fin Tryz.func17 bdB17 (by kernel_rfl) (n := 30) (by kernel_rfl) (by kernel_rfl) (tB317 hK)
theorem tB323 {W : World} (hK : KB W) : TX W pB104 stB156.act stB156.st .normal stB321 := by
  refine tx_region (by kernel_rfl) ?_
  refine triOps_cut (i := 0) (j := 1) (L1 := stB158) (hihB hK) (by kernel_rfl) runB159 (by kernel_rfl) ?_
  refine triOps_call (i := 1) (f := 17) (fi := #[]) (ca := #[]) (v := .tuple #[.int .i64 4, .int .i64 0]) (L0 := stB158) (Lc := stB313) (L1 := stB319) rfl rfl (by kernel_rfl) (by kernel_rfl) (by kernel_rfl) (by kernel_rfl) (tB318 hK) runB320 ?_
  exact triOps_end (i := 2) (L1 := stB321) (hihB hK) runB322 (by kernel_rfl)
theorem tB326 {W : World} (hK : KB W) : TX W pB144 stB321.act stB321.st .normal stB324 := triX_code (hihB hK) runB325
theorem tB327 {W : World} (hK : KB W) : TX W pB103 stB156.act stB156.st .normal stB324 := tx_seq (by kernel_rfl) (tB323 hK) (tB326 hK)
theorem tB365 {W : World} (hK : KB W) : TF W Tryz.f55 pB64 stB361.act stB361.st (vvB177) stB363.st := triFin_code (hihB hK) runB364
theorem tB366 {W : World} (hK : KB W) : TF W Tryz.f55 cdB55 ({ n := 62, t := PT.ofList 0 (PT.nil 8) vsB360, defers := [] }) stB358.st (vvB177) stB363.st := triFin_hds (k := 3) (L1 := stB361) (hihB hK) (by kernel_rfl) runB362 (tB365 hK)
theorem tB367 {W : World} (hK : KB W) : TC W 55 vsB360 stB358.st (vvB177) stB363.st := callT_fin Tryz.func55 bdB55 (by kernel_rfl) (n := 62) (by kernel_rfl) (by kernel_rfl) (tB366 hK)
theorem tB372 {W : World} (hK : KB W) : TX W pB53 stB356.act stB356.st .normal stB370 := by
  refine tx_region (by kernel_rfl) ?_
  refine triOps_cut (i := 0) (j := 3) (L1 := stB358) (hihB hK) (by kernel_rfl) runB359 (by kernel_rfl) ?_
  refine triOps_call (i := 3) (f := 55) (fi := #[]) (ca := #[]) (v := vvB177) (L0 := stB358) (Lc := stB363) (L1 := stB368) rfl rfl (by kernel_rfl) (by kernel_rfl) (by kernel_rfl) (by kernel_rfl) (tB367 hK) runB369 ?_
  exact triOps_end (i := 4) (L1 := stB370) (hihB hK) runB371 (by kernel_rfl)
theorem tB375 {W : World} (hK : KB W) : TX W pB71 stB370.act stB370.st .normal stB373 := triX_code (hihB hK) runB374
theorem tB376 {W : World} (hK : KB W) : TX W pB52 stB356.act stB356.st .normal stB373 := tx_seq (by kernel_rfl) (tB372 hK) (tB375 hK)
theorem tB377 {W : World} (hK : KB W) : TX W pB51 stB354.act stB354.st .normal stB373 := triX_hds (k := 1) (L1 := stB356) (hihB hK) (by kernel_rfl) runB357 (tB376 hK)
theorem tB378 {W : World} (hK : KB W) : TX W pB50 stB354.act stB354.st .normal stB373 := tx_through (by kernel_rfl) (by kernel_rfl) (tB377 hK)
theorem tB381 {W : World} (hK : KB W) : TX W pB72 stB373.act stB373.st .normal stB379 := triX_code (hihB hK) runB380
theorem tB382 {W : World} (hK : KB W) : TX W pB49 stB354.act stB354.st .normal stB379 := tx_seq (by kernel_rfl) (tB378 hK) (tB381 hK)
theorem tB383 {W : World} (hK : KB W) : TX W pB48 stB352.act stB352.st .normal stB379 := triX_hds (k := 2) (L1 := stB354) (hihB hK) (by kernel_rfl) runB355 (tB382 hK)
theorem tB386 {W : World} (hK : KB W) : TX W pB48 stB379.act stB379.st (.exit 0) stB384 := triX_code (hihB hK) runB385
theorem tB387 {W : World} (hK : KB W) : TX W pB47 stB352.act stB352.st (.exit 0) stB384 := tx_loop (m := 1) (by kernel_rfl) rfl (.next (tB383 hK) (.last (tB386 hK)))
theorem tB388 {W : World} (hK : KB W) : TX W pB46 stB352.act stB352.st .normal stB384 := tx_block (by kernel_rfl) (tB387 hK)
theorem tB389 {W : World} (hK : KB W) : TX W pB45 stB350.act stB350.st .normal stB384 := triX_hds (k := 1) (L1 := stB352) (hihB hK) (by kernel_rfl) runB353 (tB388 hK)
theorem tB392 {W : World} (hK : KB W) : TF W Tryz.f36 pB73 stB384.act stB384.st (vvB183) stB390.st := triFin_code (hihB hK) runB391
theorem tB393 {W : World} (hK : KB W) : TF W Tryz.f36 pB44 stB350.act stB350.st (vvB183) stB390.st := tf_seq (by kernel_rfl) (tB389 hK) (tB392 hK)
theorem tB394 {W : World} (hK : KB W) : TF W Tryz.f36 cdB36 ({ n := 89, t := PT.ofList 0 (PT.nil 8) vsB349, defers := [] }) stB347.st (vvB183) stB390.st := triFin_hds (k := 7) (L1 := stB350) (hihB hK) (by kernel_rfl) runB351 (tB393 hK)
theorem tB395 {W : World} (hK : KB W) : TC W 36 vsB349 stB347.st (vvB183) stB390.st := callT_fin Tryz.func36 bdB36 (by kernel_rfl) (n := 89) (by kernel_rfl) (by kernel_rfl) (tB394 hK)
theorem tB400 {W : World} (hK : KB W) : TX W pB35 stB345.act stB345.st .normal stB398 := by
  refine tx_region (by kernel_rfl) ?_
  refine triOps_cut (i := 0) (j := 3) (L1 := stB347) (hihB hK) (by kernel_rfl) runB348 (by kernel_rfl) ?_
  refine triOps_call (i := 3) (f := 36) (fi := #[]) (ca := #[]) (v := vvB183) (L0 := stB347) (Lc := stB390) (L1 := stB396) rfl rfl (by kernel_rfl) (by kernel_rfl) (by kernel_rfl) (by kernel_rfl) (tB395 hK) runB397 ?_
  exact triOps_end (i := 4) (L1 := stB398) (hihB hK) runB399 (by kernel_rfl)
theorem tB403 {W : World} (hK : KB W) : TX W pB80 stB398.act stB398.st .normal stB401 := triX_code (hihB hK) runB402
theorem tB404 {W : World} (hK : KB W) : TX W pB34 stB345.act stB345.st .normal stB401 := tx_seq (by kernel_rfl) (tB400 hK) (tB403 hK)
theorem tB405 {W : World} (hK : KB W) : TX W pB33 stB343.act stB343.st .normal stB401 := triX_hds (k := 1) (L1 := stB345) (hihB hK) (by kernel_rfl) runB346 (tB404 hK)
theorem tB406 {W : World} (hK : KB W) : TX W pB32 stB343.act stB343.st .normal stB401 := tx_through (by kernel_rfl) (by kernel_rfl) (tB405 hK)
theorem tB409 {W : World} (hK : KB W) : TX W pB82 stB401.act stB401.st .normal stB407 := triX_code (hihB hK) runB408
theorem tB410 {W : World} (hK : KB W) : TX W pB31 stB343.act stB343.st .normal stB407 := tx_seq (by kernel_rfl) (tB406 hK) (tB409 hK)
theorem tB411 {W : World} (hK : KB W) : TX W pB30 stB341.act stB341.st .normal stB407 := triX_hds (k := 2) (L1 := stB343) (hihB hK) (by kernel_rfl) runB344 (tB410 hK)
theorem tB414 {W : World} (hK : KB W) : TX W pB30 stB407.act stB407.st (.exit 0) stB412 := triX_code (hihB hK) runB413
theorem tB415 {W : World} (hK : KB W) : TX W pB29 stB341.act stB341.st (.exit 0) stB412 := tx_loop (m := 1) (by kernel_rfl) rfl (.next (tB411 hK) (.last (tB414 hK)))
theorem tB416 {W : World} (hK : KB W) : TX W pB28 stB341.act stB341.st .normal stB412 := tx_block (by kernel_rfl) (tB415 hK)
theorem tB417 {W : World} (hK : KB W) : TX W pB27 stB339.act stB339.st .normal stB412 := triX_hds (k := 1) (L1 := stB341) (hihB hK) (by kernel_rfl) runB342 (tB416 hK)
theorem tB420 {W : World} (hK : KB W) : TF W Tryz.f23 pB83 stB412.act stB412.st (vvB185) stB418.st := triFin_code (hihB hK) runB419
theorem tB421 {W : World} (hK : KB W) : TF W Tryz.f23 pB26 stB339.act stB339.st (vvB185) stB418.st := tf_seq (by kernel_rfl) (tB417 hK) (tB420 hK)
theorem tB422 {W : World} (hK : KB W) : TF W Tryz.f23 cdB23 ({ n := 46, t := PT.ofList 0 (PT.nil 8) vsB338, defers := [] }) stB336.st (vvB185) stB418.st := triFin_hds (k := 4) (L1 := stB339) (hihB hK) (by kernel_rfl) runB340 (tB421 hK)
theorem tB423 {W : World} (hK : KB W) : TC W 23 vsB338 stB336.st (vvB185) stB418.st := callT_fin Tryz.func23 bdB23 (by kernel_rfl) (n := 46) (by kernel_rfl) (by kernel_rfl) (tB422 hK)
theorem tB428 {W : World} (hK : KB W) : TX W pB160 stB334.act stB334.st .normal stB426 := by
  refine tx_region (by kernel_rfl) ?_
  refine triOps_cut (i := 0) (j := 5) (L1 := stB336) (hihB hK) (by kernel_rfl) runB337 (by kernel_rfl) ?_
  refine triOps_call (i := 5) (f := 23) (fi := #[]) (ca := #[]) (v := vvB185) (L0 := stB336) (Lc := stB418) (L1 := stB424) rfl rfl (by kernel_rfl) (by kernel_rfl) (by kernel_rfl) (by kernel_rfl) (tB423 hK) runB425 ?_
  exact triOps_end (i := 6) (L1 := stB426) (hihB hK) runB427 (by kernel_rfl)
theorem tB429 {W : World} (hK : KB W) : TX W pB156 stB332.act stB332.st .normal stB426 := triX_hds (k := 2) (L1 := stB334) (hihB hK) (by kernel_rfl) runB335 (tB428 hK)
theorem tB430 {W : World} (hK : KB W) : TX W pB155 stB332.act stB332.st .normal stB426 := tx_through (by kernel_rfl) (by kernel_rfl) (tB429 hK)
theorem tB433 {W : World} (hK : KB W) : TX W pB187 stB426.act stB426.st .normal stB431 := triX_code (hihB hK) runB432
theorem tB434 {W : World} (hK : KB W) : TX W pB154 stB332.act stB332.st .normal stB431 := tx_seq (by kernel_rfl) (tB430 hK) (tB433 hK)
theorem tB435 {W : World} (hK : KB W) : TX W pB153 stB330.act stB330.st .normal stB431 := triX_hds (k := 2) (L1 := stB332) (hihB hK) (by kernel_rfl) runB333 (tB434 hK)
theorem tB440 {W : World} (hK : KB W) : TX W pB153 stB436.act stB436.st (.exit 0) stB438 := triX_code (hihB hK) runB439
theorem tB441 {W : World} (hK : KB W) : TX W pB152 stB330.act stB330.st (.exit 0) stB438 := tx_loop (m := 3) (by kernel_rfl) rfl (.next (tB435 hK) (rounds_run (hihB hK) runB437 (.last (tB440 hK))))
theorem tB442 {W : World} (hK : KB W) : TX W pB151 stB330.act stB330.st .normal stB438 := tx_block (by kernel_rfl) (tB441 hK)
theorem tB443 {W : World} (hK : KB W) : TX W pB150 stB328.act stB328.st .normal stB438 := triX_hds (k := 1) (L1 := stB330) (hihB hK) (by kernel_rfl) runB331 (tB442 hK)
theorem tB446 {W : World} (hK : KB W) : TF W Tryz.f6 pB200 stB438.act stB438.st (vvB210) stB444.st := triFin_code (hihB hK) runB445
theorem tB447 {W : World} (hK : KB W) : TF W Tryz.f6 pB149 stB328.act stB328.st (vvB210) stB444.st := tf_seq (by kernel_rfl) (tB443 hK) (tB446 hK)
theorem tB448 {W : World} (hK : KB W) : TF W Tryz.f6 pB145 stB324.act stB324.st (vvB210) stB444.st := triFin_hds (k := 2) (L1 := stB328) (hihB hK) (by kernel_rfl) runB329 (tB447 hK)
theorem tB449 {W : World} (hK : KB W) : TF W Tryz.f6 pB102 stB156.act stB156.st (vvB210) stB444.st := tf_seq (by kernel_rfl) (tB327 hK) (tB448 hK)
theorem tB450 {W : World} (hK : KB W) : TF W Tryz.f6 cdB6 ({ n := 66, t := PT.ofList 0 (PT.nil 8) vsB155, defers := [] }) stB153.st (vvB210) stB444.st := triFin_hds (k := 1) (L1 := stB156) (hihB hK) (by kernel_rfl) runB157 (tB449 hK)
theorem tB451 {W : World} (hK : KB W) : TC W 6 vsB155 stB153.st (vvB210) stB444.st := callT_fin Tryz.func6 bdB6 (by kernel_rfl) (n := 66) (by kernel_rfl) (by kernel_rfl) (tB450 hK)
theorem tB456 {W : World} (hK : KB W) : TX W pB99 stB150.act stB150.st .normal stB454 := by
  refine tx_region (by kernel_rfl) ?_
  refine triOps_cut (i := 0) (j := 1) (L1 := stB153) (hihB hK) (by kernel_rfl) runB154 (by kernel_rfl) ?_
  refine triOps_call (i := 1) (f := 6) (fi := #[]) (ca := #[]) (v := vvB210) (L0 := stB153) (Lc := stB444) (L1 := stB452) rfl rfl (by kernel_rfl) (by kernel_rfl) (by kernel_rfl) (by kernel_rfl) (tB451 hK) runB453 ?_
  exact triOps_end (i := 2) (L1 := stB454) (hihB hK) runB455 (by kernel_rfl)
theorem tB524 {W : World} (hK : KB W) : TF W Tryz.f55 pB64 stB520.act stB520.st (vvB260) stB522.st := triFin_code (hihB hK) runB523
theorem tB525 {W : World} (hK : KB W) : TF W Tryz.f55 cdB55 ({ n := 62, t := PT.ofList 0 (PT.nil 8) vsB519, defers := [] }) stB517.st (vvB260) stB522.st := triFin_hds (k := 3) (L1 := stB520) (hihB hK) (by kernel_rfl) runB521 (tB524 hK)
theorem tB526 {W : World} (hK : KB W) : TC W 55 vsB519 stB517.st (vvB260) stB522.st := callT_fin Tryz.func55 bdB55 (by kernel_rfl) (n := 62) (by kernel_rfl) (by kernel_rfl) (tB525 hK)
theorem tB531 {W : World} (hK : KB W) : TX W pB53 stB515.act stB515.st .normal stB529 := by
  refine tx_region (by kernel_rfl) ?_
  refine triOps_cut (i := 0) (j := 3) (L1 := stB517) (hihB hK) (by kernel_rfl) runB518 (by kernel_rfl) ?_
  refine triOps_call (i := 3) (f := 55) (fi := #[]) (ca := #[]) (v := vvB260) (L0 := stB517) (Lc := stB522) (L1 := stB527) rfl rfl (by kernel_rfl) (by kernel_rfl) (by kernel_rfl) (by kernel_rfl) (tB526 hK) runB528 ?_
  exact triOps_end (i := 4) (L1 := stB529) (hihB hK) runB530 (by kernel_rfl)
theorem tB534 {W : World} (hK : KB W) : TX W pB71 stB529.act stB529.st .normal stB532 := triX_code (hihB hK) runB533
theorem tB535 {W : World} (hK : KB W) : TX W pB52 stB515.act stB515.st .normal stB532 := tx_seq (by kernel_rfl) (tB531 hK) (tB534 hK)
theorem tB536 {W : World} (hK : KB W) : TX W pB51 stB513.act stB513.st .normal stB532 := triX_hds (k := 1) (L1 := stB515) (hihB hK) (by kernel_rfl) runB516 (tB535 hK)
theorem tB537 {W : World} (hK : KB W) : TX W pB50 stB513.act stB513.st .normal stB532 := tx_through (by kernel_rfl) (by kernel_rfl) (tB536 hK)
theorem tB540 {W : World} (hK : KB W) : TX W pB72 stB532.act stB532.st .normal stB538 := triX_code (hihB hK) runB539
theorem tB541 {W : World} (hK : KB W) : TX W pB49 stB513.act stB513.st .normal stB538 := tx_seq (by kernel_rfl) (tB537 hK) (tB540 hK)
theorem tB542 {W : World} (hK : KB W) : TX W pB48 stB511.act stB511.st .normal stB538 := triX_hds (k := 2) (L1 := stB513) (hihB hK) (by kernel_rfl) runB514 (tB541 hK)
theorem tB545 {W : World} (hK : KB W) : TX W pB48 stB538.act stB538.st (.exit 0) stB543 := triX_code (hihB hK) runB544
theorem tB546 {W : World} (hK : KB W) : TX W pB47 stB511.act stB511.st (.exit 0) stB543 := tx_loop (m := 1) (by kernel_rfl) rfl (.next (tB542 hK) (.last (tB545 hK)))
theorem tB547 {W : World} (hK : KB W) : TX W pB46 stB511.act stB511.st .normal stB543 := tx_block (by kernel_rfl) (tB546 hK)
theorem tB548 {W : World} (hK : KB W) : TX W pB45 stB509.act stB509.st .normal stB543 := triX_hds (k := 1) (L1 := stB511) (hihB hK) (by kernel_rfl) runB512 (tB547 hK)
theorem tB551 {W : World} (hK : KB W) : TF W Tryz.f36 pB73 stB543.act stB543.st (vvB266) stB549.st := triFin_code (hihB hK) runB550
theorem tB552 {W : World} (hK : KB W) : TF W Tryz.f36 pB44 stB509.act stB509.st (vvB266) stB549.st := tf_seq (by kernel_rfl) (tB548 hK) (tB551 hK)
theorem tB553 {W : World} (hK : KB W) : TF W Tryz.f36 cdB36 ({ n := 89, t := PT.ofList 0 (PT.nil 8) vsB508, defers := [] }) stB506.st (vvB266) stB549.st := triFin_hds (k := 7) (L1 := stB509) (hihB hK) (by kernel_rfl) runB510 (tB552 hK)
theorem tB554 {W : World} (hK : KB W) : TC W 36 vsB508 stB506.st (vvB266) stB549.st := callT_fin Tryz.func36 bdB36 (by kernel_rfl) (n := 89) (by kernel_rfl) (by kernel_rfl) (tB553 hK)
theorem tB559 {W : World} (hK : KB W) : TX W pB35 stB504.act stB504.st .normal stB557 := by
  refine tx_region (by kernel_rfl) ?_
  refine triOps_cut (i := 0) (j := 3) (L1 := stB506) (hihB hK) (by kernel_rfl) runB507 (by kernel_rfl) ?_
  refine triOps_call (i := 3) (f := 36) (fi := #[]) (ca := #[]) (v := vvB266) (L0 := stB506) (Lc := stB549) (L1 := stB555) rfl rfl (by kernel_rfl) (by kernel_rfl) (by kernel_rfl) (by kernel_rfl) (tB554 hK) runB556 ?_
  exact triOps_end (i := 4) (L1 := stB557) (hihB hK) runB558 (by kernel_rfl)
theorem tB562 {W : World} (hK : KB W) : TX W pB80 stB557.act stB557.st .normal stB560 := triX_code (hihB hK) runB561
theorem tB563 {W : World} (hK : KB W) : TX W pB34 stB504.act stB504.st .normal stB560 := tx_seq (by kernel_rfl) (tB559 hK) (tB562 hK)
theorem tB564 {W : World} (hK : KB W) : TX W pB33 stB502.act stB502.st .normal stB560 := triX_hds (k := 1) (L1 := stB504) (hihB hK) (by kernel_rfl) runB505 (tB563 hK)
theorem tB565 {W : World} (hK : KB W) : TX W pB32 stB502.act stB502.st .normal stB560 := tx_through (by kernel_rfl) (by kernel_rfl) (tB564 hK)
theorem tB568 {W : World} (hK : KB W) : TX W pB82 stB560.act stB560.st .normal stB566 := triX_code (hihB hK) runB567
theorem tB569 {W : World} (hK : KB W) : TX W pB31 stB502.act stB502.st .normal stB566 := tx_seq (by kernel_rfl) (tB565 hK) (tB568 hK)
theorem tB570 {W : World} (hK : KB W) : TX W pB30 stB500.act stB500.st .normal stB566 := triX_hds (k := 2) (L1 := stB502) (hihB hK) (by kernel_rfl) runB503 (tB569 hK)
theorem tB573 {W : World} (hK : KB W) : TX W pB30 stB566.act stB566.st (.exit 0) stB571 := triX_code (hihB hK) runB572
theorem tB574 {W : World} (hK : KB W) : TX W pB29 stB500.act stB500.st (.exit 0) stB571 := tx_loop (m := 1) (by kernel_rfl) rfl (.next (tB570 hK) (.last (tB573 hK)))
theorem tB575 {W : World} (hK : KB W) : TX W pB28 stB500.act stB500.st .normal stB571 := tx_block (by kernel_rfl) (tB574 hK)
theorem tB576 {W : World} (hK : KB W) : TX W pB27 stB498.act stB498.st .normal stB571 := triX_hds (k := 1) (L1 := stB500) (hihB hK) (by kernel_rfl) runB501 (tB575 hK)
theorem tB579 {W : World} (hK : KB W) : TF W Tryz.f23 pB83 stB571.act stB571.st (vvB268) stB577.st := triFin_code (hihB hK) runB578
theorem tB580 {W : World} (hK : KB W) : TF W Tryz.f23 pB26 stB498.act stB498.st (vvB268) stB577.st := tf_seq (by kernel_rfl) (tB576 hK) (tB579 hK)
theorem tB581 {W : World} (hK : KB W) : TF W Tryz.f23 cdB23 ({ n := 46, t := PT.ofList 0 (PT.nil 8) vsB497, defers := [] }) stB495.st (vvB268) stB577.st := triFin_hds (k := 4) (L1 := stB498) (hihB hK) (by kernel_rfl) runB499 (tB580 hK)
theorem tB582 {W : World} (hK : KB W) : TC W 23 vsB497 stB495.st (vvB268) stB577.st := callT_fin Tryz.func23 bdB23 (by kernel_rfl) (n := 46) (by kernel_rfl) (by kernel_rfl) (tB581 hK)
theorem tB587 {W : World} (hK : KB W) : TX W pB25 stB493.act stB493.st .normal stB585 := by
  refine tx_region (by kernel_rfl) ?_
  refine triOps_cut (i := 0) (j := 2) (L1 := stB495) (hihB hK) (by kernel_rfl) runB496 (by kernel_rfl) ?_
  refine triOps_call (i := 2) (f := 23) (fi := #[]) (ca := #[]) (v := vvB268) (L0 := stB495) (Lc := stB577) (L1 := stB583) rfl rfl (by kernel_rfl) (by kernel_rfl) (by kernel_rfl) (by kernel_rfl) (tB582 hK) runB584 ?_
  exact triOps_end (i := 3) (L1 := stB585) (hihB hK) runB586 (by kernel_rfl)
theorem tB590 {W : World} (hK : KB W) : TF W Tryz.f22 pB85 stB585.act stB585.st (.tuple #[.int .i64 2, .int .i64 0]) stB588.st := triFin_code (hihB hK) runB589
theorem tB591 {W : World} (hK : KB W) : TF W Tryz.f22 pB24 stB493.act stB493.st (.tuple #[.int .i64 2, .int .i64 0]) stB588.st := tf_seq (by kernel_rfl) (tB587 hK) (tB590 hK)
theorem tB592 {W : World} (hK : KB W) : TF W Tryz.f22 cdB22 ({ n := 17, t := PT.ofList 0 (PT.nil 8) vsB492, defers := [] }) stB490.st (.tuple #[.int .i64 2, .int .i64 0]) stB588.st := triFin_hds (k := 1) (L1 := stB493) (hihB hK) (by kernel_rfl) runB494 (tB591 hK)
theorem tB593 {W : World} (hK : KB W) : TC W 22 vsB492 stB490.st (.tuple #[.int .i64 2, .int .i64 0]) stB588.st := callT_fin Tryz.func22 bdB22 (by kernel_rfl) (n := 17) (by kernel_rfl) (by kernel_rfl) (tB592 hK)
theorem tB598 {W : World} (hK : KB W) : TX W pB21 stB488.act stB488.st .normal stB596 := by
  refine tx_region (by kernel_rfl) ?_
  refine triOps_cut (i := 0) (j := 3) (L1 := stB490) (hihB hK) (by kernel_rfl) runB491 (by kernel_rfl) ?_
  refine triOps_call (i := 3) (f := 22) (fi := #[]) (ca := #[]) (v := .tuple #[.int .i64 2, .int .i64 0]) (L0 := stB490) (Lc := stB588) (L1 := stB594) rfl rfl (by kernel_rfl) (by kernel_rfl) (by kernel_rfl) (by kernel_rfl) (tB593 hK) runB595 ?_
  exact triOps_end (i := 4) (L1 := stB596) (hihB hK) runB597 (by kernel_rfl)
theorem tB601 {W : World} (hK : KB W) : TX W pB86 stB596.act stB596.st .normal stB599 := triX_code (hihB hK) runB600
theorem tB602 {W : World} (hK : KB W) : TX W pB20 stB488.act stB488.st .normal stB599 := tx_seq (by kernel_rfl) (tB598 hK) (tB601 hK)
theorem tB603 {W : World} (hK : KB W) : TX W pB14 stB486.act stB486.st .normal stB599 := triX_hds (k := 2) (L1 := stB488) (hihB hK) (by kernel_rfl) runB489 (tB602 hK)
theorem tB604 {W : World} (hK : KB W) : TX W pB13 stB486.act stB486.st .normal stB599 := tx_through (by kernel_rfl) (by kernel_rfl) (tB603 hK)
theorem tB607 {W : World} (hK : KB W) : TX W pB88 stB599.act stB599.st .normal stB605 := triX_code (hihB hK) runB606
theorem tB608 {W : World} (hK : KB W) : TX W pB12 stB486.act stB486.st .normal stB605 := tx_seq (by kernel_rfl) (tB604 hK) (tB607 hK)
theorem tB609 {W : World} (hK : KB W) : TX W pB11 stB484.act stB484.st .normal stB605 := triX_hds (k := 2) (L1 := stB486) (hihB hK) (by kernel_rfl) runB487 (tB608 hK)
theorem tB614 {W : World} (hK : KB W) : TX W pB11 stB610.act stB610.st (.exit 0) stB612 := triX_code (hihB hK) runB613
theorem tB615 {W : World} (hK : KB W) : TX W pB10 stB484.act stB484.st (.exit 0) stB612 := tx_loop (m := 3) (by kernel_rfl) rfl (.next (tB609 hK) (rounds_run (hihB hK) runB611 (.last (tB614 hK))))
theorem tB616 {W : World} (hK : KB W) : TX W pB9 stB484.act stB484.st .normal stB612 := tx_block (by kernel_rfl) (tB615 hK)
theorem tB617 {W : World} (hK : KB W) : TX W pB8 stB482.act stB482.st .normal stB612 := triX_hds (k := 1) (L1 := stB484) (hihB hK) (by kernel_rfl) runB485 (tB616 hK)
theorem tB620 {W : World} (hK : KB W) : TF W Tryz.f4 pB96 stB612.act stB612.st (vvB274) stB618.st := triFin_code (hihB hK) runB619
theorem tB621 {W : World} (hK : KB W) : TF W Tryz.f4 pB7 stB482.act stB482.st (vvB274) stB618.st := tf_seq (by kernel_rfl) (tB617 hK) (tB620 hK)
theorem tB622 {W : World} (hK : KB W) : TF W Tryz.f4 cdB4 ({ n := 52, t := PT.ofList 0 (PT.nil 8) vsB481, defers := [] }) stB479.st (vvB274) stB618.st := triFin_hds (k := 4) (L1 := stB482) (hihB hK) (by kernel_rfl) runB483 (tB621 hK)
theorem tB623 {W : World} (hK : KB W) : TC W 4 vsB481 stB479.st (vvB274) stB618.st := callT_fin Tryz.func4 bdB4 (by kernel_rfl) (n := 52) (by kernel_rfl) (by kernel_rfl) (tB622 hK)
theorem tB628 {W : World} (hK : KB W) : TX W pB106 stB477.act stB477.st .normal stB626 := by
  refine tx_region (by kernel_rfl) ?_
  refine triOps_cut (i := 0) (j := 1) (L1 := stB479) (hihB hK) (by kernel_rfl) runB480 (by kernel_rfl) ?_
  refine triOps_call (i := 1) (f := 4) (fi := #[]) (ca := #[]) (v := vvB274) (L0 := stB479) (Lc := stB618) (L1 := stB624) rfl rfl (by kernel_rfl) (by kernel_rfl) (by kernel_rfl) (by kernel_rfl) (tB623 hK) runB625 ?_
  exact triOps_end (i := 2) (L1 := stB626) (hihB hK) runB627 (by kernel_rfl)
theorem tB631 {W : World} (hK : KB W) : TF W Tryz.f17 pB143 stB626.act stB626.st (.tuple #[.int .i64 4, .int .i64 0]) stB629.st := triFin_code (hihB hK) runB630
theorem tB632 {W : World} (hK : KB W) : TF W Tryz.f17 pB105 stB477.act stB477.st (.tuple #[.int .i64 4, .int .i64 0]) stB629.st := tf_seq (by kernel_rfl) (tB628 hK) (tB631 hK)
theorem tB633 {W : World} (hK : KB W) : TF W Tryz.f17 cdB17 ({ n := 30, t := PT.ofList 0 (PT.nil 8) vsB476, defers := [] }) stB474.st (.tuple #[.int .i64 4, .int .i64 0]) stB629.st := triFin_hds (k := 1) (L1 := stB477) (hihB hK) (by kernel_rfl) runB478 (tB632 hK)
theorem tB634 {W : World} (hK : KB W) : TC W 17 vsB476 stB474.st (.tuple #[.int .i64 4, .int .i64 0]) stB629.st := callT_fin Tryz.func17 bdB17 (by kernel_rfl) (n := 30) (by kernel_rfl) (by kernel_rfl) (tB633 hK)
theorem tB639 {W : World} (hK : KB W) : TX W pB104 stB472.act stB472.st .normal stB637 := by
  refine tx_region (by kernel_rfl) ?_
  refine triOps_cut (i := 0) (j := 1) (L1 := stB474) (hihB hK) (by kernel_rfl) runB475 (by kernel_rfl) ?_
  refine triOps_call (i := 1) (f := 17) (fi := #[]) (ca := #[]) (v := .tuple #[.int .i64 4, .int .i64 0]) (L0 := stB474) (Lc := stB629) (L1 := stB635) rfl rfl (by kernel_rfl) (by kernel_rfl) (by kernel_rfl) (by kernel_rfl) (tB634 hK) runB636 ?_
  exact triOps_end (i := 2) (L1 := stB637) (hihB hK) runB638 (by kernel_rfl)
theorem tB642 {W : World} (hK : KB W) : TX W pB144 stB637.act stB637.st .normal stB640 := triX_code (hihB hK) runB641
theorem tB643 {W : World} (hK : KB W) : TX W pB103 stB472.act stB472.st .normal stB640 := tx_seq (by kernel_rfl) (tB639 hK) (tB642 hK)
theorem tB681 {W : World} (hK : KB W) : TF W Tryz.f55 pB64 stB677.act stB677.st (vvB296) stB679.st := triFin_code (hihB hK) runB680
theorem tB682 {W : World} (hK : KB W) : TF W Tryz.f55 cdB55 ({ n := 62, t := PT.ofList 0 (PT.nil 8) vsB676, defers := [] }) stB674.st (vvB296) stB679.st := triFin_hds (k := 3) (L1 := stB677) (hihB hK) (by kernel_rfl) runB678 (tB681 hK)
theorem tB683 {W : World} (hK : KB W) : TC W 55 vsB676 stB674.st (vvB296) stB679.st := callT_fin Tryz.func55 bdB55 (by kernel_rfl) (n := 62) (by kernel_rfl) (by kernel_rfl) (tB682 hK)
theorem tB688 {W : World} (hK : KB W) : TX W pB53 stB672.act stB672.st .normal stB686 := by
  refine tx_region (by kernel_rfl) ?_
  refine triOps_cut (i := 0) (j := 3) (L1 := stB674) (hihB hK) (by kernel_rfl) runB675 (by kernel_rfl) ?_
  refine triOps_call (i := 3) (f := 55) (fi := #[]) (ca := #[]) (v := vvB296) (L0 := stB674) (Lc := stB679) (L1 := stB684) rfl rfl (by kernel_rfl) (by kernel_rfl) (by kernel_rfl) (by kernel_rfl) (tB683 hK) runB685 ?_
  exact triOps_end (i := 4) (L1 := stB686) (hihB hK) runB687 (by kernel_rfl)
theorem tB691 {W : World} (hK : KB W) : TX W pB71 stB686.act stB686.st .normal stB689 := triX_code (hihB hK) runB690
theorem tB692 {W : World} (hK : KB W) : TX W pB52 stB672.act stB672.st .normal stB689 := tx_seq (by kernel_rfl) (tB688 hK) (tB691 hK)
theorem tB693 {W : World} (hK : KB W) : TX W pB51 stB670.act stB670.st .normal stB689 := triX_hds (k := 1) (L1 := stB672) (hihB hK) (by kernel_rfl) runB673 (tB692 hK)
theorem tB694 {W : World} (hK : KB W) : TX W pB50 stB670.act stB670.st .normal stB689 := tx_through (by kernel_rfl) (by kernel_rfl) (tB693 hK)
theorem tB697 {W : World} (hK : KB W) : TX W pB72 stB689.act stB689.st .normal stB695 := triX_code (hihB hK) runB696
theorem tB698 {W : World} (hK : KB W) : TX W pB49 stB670.act stB670.st .normal stB695 := tx_seq (by kernel_rfl) (tB694 hK) (tB697 hK)
theorem tB699 {W : World} (hK : KB W) : TX W pB48 stB668.act stB668.st .normal stB695 := triX_hds (k := 2) (L1 := stB670) (hihB hK) (by kernel_rfl) runB671 (tB698 hK)
theorem tB702 {W : World} (hK : KB W) : TX W pB48 stB695.act stB695.st (.exit 0) stB700 := triX_code (hihB hK) runB701
theorem tB703 {W : World} (hK : KB W) : TX W pB47 stB668.act stB668.st (.exit 0) stB700 := tx_loop (m := 1) (by kernel_rfl) rfl (.next (tB699 hK) (.last (tB702 hK)))
theorem tB704 {W : World} (hK : KB W) : TX W pB46 stB668.act stB668.st .normal stB700 := tx_block (by kernel_rfl) (tB703 hK)
theorem tB705 {W : World} (hK : KB W) : TX W pB45 stB666.act stB666.st .normal stB700 := triX_hds (k := 1) (L1 := stB668) (hihB hK) (by kernel_rfl) runB669 (tB704 hK)
theorem tB708 {W : World} (hK : KB W) : TF W Tryz.f36 pB73 stB700.act stB700.st (vvB302) stB706.st := triFin_code (hihB hK) runB707
theorem tB709 {W : World} (hK : KB W) : TF W Tryz.f36 pB44 stB666.act stB666.st (vvB302) stB706.st := tf_seq (by kernel_rfl) (tB705 hK) (tB708 hK)
theorem tB710 {W : World} (hK : KB W) : TF W Tryz.f36 cdB36 ({ n := 89, t := PT.ofList 0 (PT.nil 8) vsB665, defers := [] }) stB663.st (vvB302) stB706.st := triFin_hds (k := 7) (L1 := stB666) (hihB hK) (by kernel_rfl) runB667 (tB709 hK)
theorem tB711 {W : World} (hK : KB W) : TC W 36 vsB665 stB663.st (vvB302) stB706.st := callT_fin Tryz.func36 bdB36 (by kernel_rfl) (n := 89) (by kernel_rfl) (by kernel_rfl) (tB710 hK)
theorem tB716 {W : World} (hK : KB W) : TX W pB35 stB661.act stB661.st .normal stB714 := by
  refine tx_region (by kernel_rfl) ?_
  refine triOps_cut (i := 0) (j := 3) (L1 := stB663) (hihB hK) (by kernel_rfl) runB664 (by kernel_rfl) ?_
  refine triOps_call (i := 3) (f := 36) (fi := #[]) (ca := #[]) (v := vvB302) (L0 := stB663) (Lc := stB706) (L1 := stB712) rfl rfl (by kernel_rfl) (by kernel_rfl) (by kernel_rfl) (by kernel_rfl) (tB711 hK) runB713 ?_
  exact triOps_end (i := 4) (L1 := stB714) (hihB hK) runB715 (by kernel_rfl)
theorem tB719 {W : World} (hK : KB W) : TX W pB80 stB714.act stB714.st .normal stB717 := triX_code (hihB hK) runB718
theorem tB720 {W : World} (hK : KB W) : TX W pB34 stB661.act stB661.st .normal stB717 := tx_seq (by kernel_rfl) (tB716 hK) (tB719 hK)
theorem tB721 {W : World} (hK : KB W) : TX W pB33 stB659.act stB659.st .normal stB717 := triX_hds (k := 1) (L1 := stB661) (hihB hK) (by kernel_rfl) runB662 (tB720 hK)
theorem tB722 {W : World} (hK : KB W) : TX W pB32 stB659.act stB659.st .normal stB717 := tx_through (by kernel_rfl) (by kernel_rfl) (tB721 hK)
theorem tB725 {W : World} (hK : KB W) : TX W pB82 stB717.act stB717.st .normal stB723 := triX_code (hihB hK) runB724
theorem tB726 {W : World} (hK : KB W) : TX W pB31 stB659.act stB659.st .normal stB723 := tx_seq (by kernel_rfl) (tB722 hK) (tB725 hK)
theorem tB727 {W : World} (hK : KB W) : TX W pB30 stB657.act stB657.st .normal stB723 := triX_hds (k := 2) (L1 := stB659) (hihB hK) (by kernel_rfl) runB660 (tB726 hK)
theorem tB730 {W : World} (hK : KB W) : TX W pB30 stB723.act stB723.st (.exit 0) stB728 := triX_code (hihB hK) runB729
theorem tB731 {W : World} (hK : KB W) : TX W pB29 stB657.act stB657.st (.exit 0) stB728 := tx_loop (m := 1) (by kernel_rfl) rfl (.next (tB727 hK) (.last (tB730 hK)))
theorem tB732 {W : World} (hK : KB W) : TX W pB28 stB657.act stB657.st .normal stB728 := tx_block (by kernel_rfl) (tB731 hK)
theorem tB733 {W : World} (hK : KB W) : TX W pB27 stB655.act stB655.st .normal stB728 := triX_hds (k := 1) (L1 := stB657) (hihB hK) (by kernel_rfl) runB658 (tB732 hK)
theorem tB736 {W : World} (hK : KB W) : TF W Tryz.f23 pB83 stB728.act stB728.st (vvB304) stB734.st := triFin_code (hihB hK) runB735
theorem tB737 {W : World} (hK : KB W) : TF W Tryz.f23 pB26 stB655.act stB655.st (vvB304) stB734.st := tf_seq (by kernel_rfl) (tB733 hK) (tB736 hK)
theorem tB738 {W : World} (hK : KB W) : TF W Tryz.f23 cdB23 ({ n := 46, t := PT.ofList 0 (PT.nil 8) vsB654, defers := [] }) stB652.st (vvB304) stB734.st := triFin_hds (k := 4) (L1 := stB655) (hihB hK) (by kernel_rfl) runB656 (tB737 hK)
theorem tB739 {W : World} (hK : KB W) : TC W 23 vsB654 stB652.st (vvB304) stB734.st := callT_fin Tryz.func23 bdB23 (by kernel_rfl) (n := 46) (by kernel_rfl) (by kernel_rfl) (tB738 hK)
theorem tB744 {W : World} (hK : KB W) : TX W pB160 stB650.act stB650.st .normal stB742 := by
  refine tx_region (by kernel_rfl) ?_
  refine triOps_cut (i := 0) (j := 5) (L1 := stB652) (hihB hK) (by kernel_rfl) runB653 (by kernel_rfl) ?_
  refine triOps_call (i := 5) (f := 23) (fi := #[]) (ca := #[]) (v := vvB304) (L0 := stB652) (Lc := stB734) (L1 := stB740) rfl rfl (by kernel_rfl) (by kernel_rfl) (by kernel_rfl) (by kernel_rfl) (tB739 hK) runB741 ?_
  exact triOps_end (i := 6) (L1 := stB742) (hihB hK) runB743 (by kernel_rfl)
theorem tB745 {W : World} (hK : KB W) : TX W pB156 stB648.act stB648.st .normal stB742 := triX_hds (k := 2) (L1 := stB650) (hihB hK) (by kernel_rfl) runB651 (tB744 hK)
theorem tB746 {W : World} (hK : KB W) : TX W pB155 stB648.act stB648.st .normal stB742 := tx_through (by kernel_rfl) (by kernel_rfl) (tB745 hK)
theorem tB749 {W : World} (hK : KB W) : TX W pB187 stB742.act stB742.st .normal stB747 := triX_code (hihB hK) runB748
theorem tB750 {W : World} (hK : KB W) : TX W pB154 stB648.act stB648.st .normal stB747 := tx_seq (by kernel_rfl) (tB746 hK) (tB749 hK)
theorem tB751 {W : World} (hK : KB W) : TX W pB153 stB646.act stB646.st .normal stB747 := triX_hds (k := 2) (L1 := stB648) (hihB hK) (by kernel_rfl) runB649 (tB750 hK)
theorem tB756 {W : World} (hK : KB W) : TX W pB153 stB752.act stB752.st (.exit 0) stB754 := triX_code (hihB hK) runB755
theorem tB757 {W : World} (hK : KB W) : TX W pB152 stB646.act stB646.st (.exit 0) stB754 := tx_loop (m := 3) (by kernel_rfl) rfl (.next (tB751 hK) (rounds_run (hihB hK) runB753 (.last (tB756 hK))))
theorem tB758 {W : World} (hK : KB W) : TX W pB151 stB646.act stB646.st .normal stB754 := tx_block (by kernel_rfl) (tB757 hK)
theorem tB759 {W : World} (hK : KB W) : TX W pB150 stB644.act stB644.st .normal stB754 := triX_hds (k := 1) (L1 := stB646) (hihB hK) (by kernel_rfl) runB647 (tB758 hK)
theorem tB762 {W : World} (hK : KB W) : TF W Tryz.f6 pB200 stB754.act stB754.st (vvB326) stB760.st := triFin_code (hihB hK) runB761
theorem tB763 {W : World} (hK : KB W) : TF W Tryz.f6 pB149 stB644.act stB644.st (vvB326) stB760.st := tf_seq (by kernel_rfl) (tB759 hK) (tB762 hK)
theorem tB764 {W : World} (hK : KB W) : TF W Tryz.f6 pB145 stB640.act stB640.st (vvB326) stB760.st := triFin_hds (k := 2) (L1 := stB644) (hihB hK) (by kernel_rfl) runB645 (tB763 hK)
theorem tB765 {W : World} (hK : KB W) : TF W Tryz.f6 pB102 stB472.act stB472.st (vvB326) stB760.st := tf_seq (by kernel_rfl) (tB643 hK) (tB764 hK)
theorem tB766 {W : World} (hK : KB W) : TF W Tryz.f6 cdB6 ({ n := 66, t := PT.ofList 0 (PT.nil 8) vsB471, defers := [] }) stB469.st (vvB326) stB760.st := triFin_hds (k := 1) (L1 := stB472) (hihB hK) (by kernel_rfl) runB473 (tB765 hK)
theorem tB767 {W : World} (hK : KB W) : TC W 6 vsB471 stB469.st (vvB326) stB760.st := callT_fin Tryz.func6 bdB6 (by kernel_rfl) (n := 66) (by kernel_rfl) (by kernel_rfl) (tB766 hK)
theorem tB772 {W : World} (hK : KB W) : TX W pB238 stB467.act stB467.st .normal stB770 := by
  refine tx_region (by kernel_rfl) ?_
  refine triOps_cut (i := 0) (j := 1) (L1 := stB469) (hihB hK) (by kernel_rfl) runB470 (by kernel_rfl) ?_
  refine triOps_call (i := 1) (f := 6) (fi := #[]) (ca := #[]) (v := vvB326) (L0 := stB469) (Lc := stB760) (L1 := stB768) rfl rfl (by kernel_rfl) (by kernel_rfl) (by kernel_rfl) (by kernel_rfl) (tB767 hK) runB769 ?_
  exact triOps_end (i := 2) (L1 := stB770) (hihB hK) runB771 (by kernel_rfl)
theorem tB783 {W : World} (hK : KB W) : TX W pB332 stB779.act stB779.st (.exit 0) stB781 := triX_code (hihB hK) runB782
theorem tB784 {W : World} (hK : KB W) : TX W pB331 stB775.act stB775.st (.exit 0) stB781 := tx_loop (m := 4) (by kernel_rfl) rfl (rounds_run (hihB hK) runB778 (rounds_run (hihB hK) runB780 (.last (tB783 hK))))
theorem tB785 {W : World} (hK : KB W) : TX W pB330 stB775.act stB775.st .normal stB781 := tx_block (by kernel_rfl) (tB784 hK)
theorem tB786 {W : World} (hK : KB W) : TX W pB329 stB773.act stB773.st .normal stB781 := triX_hds (k := 1) (L1 := stB775) (hihB hK) (by kernel_rfl) runB776 (tB785 hK)
theorem tB789 {W : World} (hK : KB W) : TF W Tryz.f26 pB346 stB781.act stB781.st (vvB347) stB787.st := triFin_code (hihB hK) runB788
theorem tB790 {W : World} (hK : KB W) : TF W Tryz.f26 pB328 stB773.act stB773.st (vvB347) stB787.st := tf_seq (by kernel_rfl) (tB786 hK) (tB789 hK)
theorem tB791 {W : World} (hK : KB W) : TF W Tryz.f26 pB327 stB770.act stB770.st (vvB347) stB787.st := triFin_hds (k := 2) (L1 := stB773) (hihB hK) (by kernel_rfl) runB774 (tB790 hK)
theorem tB792 {W : World} (hK : KB W) : TF W Tryz.f26 pB237 stB467.act stB467.st (vvB347) stB787.st := tf_seq (by kernel_rfl) (tB772 hK) (tB791 hK)
theorem tB793 {W : World} (hK : KB W) : TF W Tryz.f26 cdB26 ({ n := 42, t := PT.ofList 0 (PT.nil 8) vsB466, defers := [] }) stB464.st (vvB347) stB787.st := triFin_hds (k := 1) (L1 := stB467) (hihB hK) (by kernel_rfl) runB468 (tB792 hK)
theorem tB794 {W : World} (hK : KB W) : TC W 26 vsB466 stB464.st (vvB347) stB787.st := callT_fin Tryz.func26 bdB26 (by kernel_rfl) (n := 42) (by kernel_rfl) (by kernel_rfl) (tB793 hK)
theorem tB799 {W : World} (hK : KB W) : TX W pB236 stB462.act stB462.st .normal stB797 := by
  refine tx_region (by kernel_rfl) ?_
  refine triOps_cut (i := 0) (j := 1) (L1 := stB464) (hihB hK) (by kernel_rfl) runB465 (by kernel_rfl) ?_
  refine triOps_call (i := 1) (f := 26) (fi := #[]) (ca := #[]) (v := vvB347) (L0 := stB464) (Lc := stB787) (L1 := stB795) rfl rfl (by kernel_rfl) (by kernel_rfl) (by kernel_rfl) (by kernel_rfl) (tB794 hK) runB796 ?_
  exact triOps_end (i := 2) (L1 := stB797) (hihB hK) runB798 (by kernel_rfl)
theorem tB802 {W : World} (hK : KB W) : TF W Tryz.f9 pB348 stB797.act stB797.st (vvB350) stB800.st := triFin_code (hihB hK) runB801
theorem tB803 {W : World} (hK : KB W) : TF W Tryz.f9 pB235 stB462.act stB462.st (vvB350) stB800.st := tf_seq (by kernel_rfl) (tB799 hK) (tB802 hK)
theorem tB804 {W : World} (hK : KB W) : TF W Tryz.f9 cdB9 ({ n := 56, t := PT.ofList 0 (PT.nil 8) vsB461, defers := [] }) stB459.st (vvB350) stB800.st := triFin_hds (k := 3) (L1 := stB462) (hihB hK) (by kernel_rfl) runB463 (tB803 hK)
theorem tB805 {W : World} (hK : KB W) : TC W 9 vsB461 stB459.st (vvB350) stB800.st := callT_fin Tryz.func9 bdB9 (by kernel_rfl) (n := 56) (by kernel_rfl) (by kernel_rfl) (tB804 hK)
theorem tB810 {W : World} (hK : KB W) : TX W pB229 stB457.act stB457.st .normal stB808 := by
  refine tx_region (by kernel_rfl) ?_
  refine triOps_cut (i := 0) (j := 2) (L1 := stB459) (hihB hK) (by kernel_rfl) runB460 (by kernel_rfl) ?_
  refine triOps_call (i := 2) (f := 9) (fi := #[]) (ca := #[]) (v := vvB350) (L0 := stB459) (Lc := stB800) (L1 := stB806) rfl rfl (by kernel_rfl) (by kernel_rfl) (by kernel_rfl) (by kernel_rfl) (tB805 hK) runB807 ?_
  exact triOps_end (i := 3) (L1 := stB808) (hihB hK) runB809 (by kernel_rfl)
theorem tB876 {W : World} (hK : KB W) : TF W Tryz.f55 pB64 stB872.act stB872.st (vvB379) stB874.st := triFin_code (hihB hK) runB875
theorem tB877 {W : World} (hK : KB W) : TF W Tryz.f55 cdB55 ({ n := 62, t := PT.ofList 0 (PT.nil 8) vsB871, defers := [] }) stB869.st (vvB379) stB874.st := triFin_hds (k := 3) (L1 := stB872) (hihB hK) (by kernel_rfl) runB873 (tB876 hK)
theorem tB878 {W : World} (hK : KB W) : TC W 55 vsB871 stB869.st (vvB379) stB874.st := callT_fin Tryz.func55 bdB55 (by kernel_rfl) (n := 62) (by kernel_rfl) (by kernel_rfl) (tB877 hK)
theorem tB883 {W : World} (hK : KB W) : TX W pB53 stB867.act stB867.st .normal stB881 := by
  refine tx_region (by kernel_rfl) ?_
  refine triOps_cut (i := 0) (j := 3) (L1 := stB869) (hihB hK) (by kernel_rfl) runB870 (by kernel_rfl) ?_
  refine triOps_call (i := 3) (f := 55) (fi := #[]) (ca := #[]) (v := vvB379) (L0 := stB869) (Lc := stB874) (L1 := stB879) rfl rfl (by kernel_rfl) (by kernel_rfl) (by kernel_rfl) (by kernel_rfl) (tB878 hK) runB880 ?_
  exact triOps_end (i := 4) (L1 := stB881) (hihB hK) runB882 (by kernel_rfl)
theorem tB886 {W : World} (hK : KB W) : TX W pB71 stB881.act stB881.st .normal stB884 := triX_code (hihB hK) runB885
theorem tB887 {W : World} (hK : KB W) : TX W pB52 stB867.act stB867.st .normal stB884 := tx_seq (by kernel_rfl) (tB883 hK) (tB886 hK)
theorem tB888 {W : World} (hK : KB W) : TX W pB51 stB865.act stB865.st .normal stB884 := triX_hds (k := 1) (L1 := stB867) (hihB hK) (by kernel_rfl) runB868 (tB887 hK)
theorem tB889 {W : World} (hK : KB W) : TX W pB50 stB865.act stB865.st .normal stB884 := tx_through (by kernel_rfl) (by kernel_rfl) (tB888 hK)
theorem tB892 {W : World} (hK : KB W) : TX W pB72 stB884.act stB884.st .normal stB890 := triX_code (hihB hK) runB891
theorem tB893 {W : World} (hK : KB W) : TX W pB49 stB865.act stB865.st .normal stB890 := tx_seq (by kernel_rfl) (tB889 hK) (tB892 hK)
theorem tB894 {W : World} (hK : KB W) : TX W pB48 stB863.act stB863.st .normal stB890 := triX_hds (k := 2) (L1 := stB865) (hihB hK) (by kernel_rfl) runB866 (tB893 hK)
theorem tB897 {W : World} (hK : KB W) : TX W pB48 stB890.act stB890.st (.exit 0) stB895 := triX_code (hihB hK) runB896
theorem tB898 {W : World} (hK : KB W) : TX W pB47 stB863.act stB863.st (.exit 0) stB895 := tx_loop (m := 1) (by kernel_rfl) rfl (.next (tB894 hK) (.last (tB897 hK)))
theorem tB899 {W : World} (hK : KB W) : TX W pB46 stB863.act stB863.st .normal stB895 := tx_block (by kernel_rfl) (tB898 hK)
theorem tB900 {W : World} (hK : KB W) : TX W pB45 stB861.act stB861.st .normal stB895 := triX_hds (k := 1) (L1 := stB863) (hihB hK) (by kernel_rfl) runB864 (tB899 hK)
theorem tB903 {W : World} (hK : KB W) : TF W Tryz.f36 pB73 stB895.act stB895.st (vvB385) stB901.st := triFin_code (hihB hK) runB902
theorem tB904 {W : World} (hK : KB W) : TF W Tryz.f36 pB44 stB861.act stB861.st (vvB385) stB901.st := tf_seq (by kernel_rfl) (tB900 hK) (tB903 hK)
theorem tB905 {W : World} (hK : KB W) : TF W Tryz.f36 cdB36 ({ n := 89, t := PT.ofList 0 (PT.nil 8) vsB860, defers := [] }) stB858.st (vvB385) stB901.st := triFin_hds (k := 7) (L1 := stB861) (hihB hK) (by kernel_rfl) runB862 (tB904 hK)
theorem tB906 {W : World} (hK : KB W) : TC W 36 vsB860 stB858.st (vvB385) stB901.st := callT_fin Tryz.func36 bdB36 (by kernel_rfl) (n := 89) (by kernel_rfl) (by kernel_rfl) (tB905 hK)
theorem tB911 {W : World} (hK : KB W) : TX W pB35 stB856.act stB856.st .normal stB909 := by
  refine tx_region (by kernel_rfl) ?_
  refine triOps_cut (i := 0) (j := 3) (L1 := stB858) (hihB hK) (by kernel_rfl) runB859 (by kernel_rfl) ?_
  refine triOps_call (i := 3) (f := 36) (fi := #[]) (ca := #[]) (v := vvB385) (L0 := stB858) (Lc := stB901) (L1 := stB907) rfl rfl (by kernel_rfl) (by kernel_rfl) (by kernel_rfl) (by kernel_rfl) (tB906 hK) runB908 ?_
  exact triOps_end (i := 4) (L1 := stB909) (hihB hK) runB910 (by kernel_rfl)
theorem tB914 {W : World} (hK : KB W) : TX W pB80 stB909.act stB909.st .normal stB912 := triX_code (hihB hK) runB913
theorem tB915 {W : World} (hK : KB W) : TX W pB34 stB856.act stB856.st .normal stB912 := tx_seq (by kernel_rfl) (tB911 hK) (tB914 hK)
theorem tB916 {W : World} (hK : KB W) : TX W pB33 stB854.act stB854.st .normal stB912 := triX_hds (k := 1) (L1 := stB856) (hihB hK) (by kernel_rfl) runB857 (tB915 hK)
theorem tB917 {W : World} (hK : KB W) : TX W pB32 stB854.act stB854.st .normal stB912 := tx_through (by kernel_rfl) (by kernel_rfl) (tB916 hK)
theorem tB920 {W : World} (hK : KB W) : TX W pB82 stB912.act stB912.st .normal stB918 := triX_code (hihB hK) runB919
theorem tB921 {W : World} (hK : KB W) : TX W pB31 stB854.act stB854.st .normal stB918 := tx_seq (by kernel_rfl) (tB917 hK) (tB920 hK)
theorem tB922 {W : World} (hK : KB W) : TX W pB30 stB852.act stB852.st .normal stB918 := triX_hds (k := 2) (L1 := stB854) (hihB hK) (by kernel_rfl) runB855 (tB921 hK)
theorem tB925 {W : World} (hK : KB W) : TX W pB30 stB918.act stB918.st (.exit 0) stB923 := triX_code (hihB hK) runB924
theorem tB926 {W : World} (hK : KB W) : TX W pB29 stB852.act stB852.st (.exit 0) stB923 := tx_loop (m := 1) (by kernel_rfl) rfl (.next (tB922 hK) (.last (tB925 hK)))
theorem tB927 {W : World} (hK : KB W) : TX W pB28 stB852.act stB852.st .normal stB923 := tx_block (by kernel_rfl) (tB926 hK)
theorem tB928 {W : World} (hK : KB W) : TX W pB27 stB850.act stB850.st .normal stB923 := triX_hds (k := 1) (L1 := stB852) (hihB hK) (by kernel_rfl) runB853 (tB927 hK)
theorem tB931 {W : World} (hK : KB W) : TF W Tryz.f23 pB83 stB923.act stB923.st (vvB387) stB929.st := triFin_code (hihB hK) runB930
theorem tB932 {W : World} (hK : KB W) : TF W Tryz.f23 pB26 stB850.act stB850.st (vvB387) stB929.st := tf_seq (by kernel_rfl) (tB928 hK) (tB931 hK)
theorem tB933 {W : World} (hK : KB W) : TF W Tryz.f23 cdB23 ({ n := 46, t := PT.ofList 0 (PT.nil 8) vsB849, defers := [] }) stB847.st (vvB387) stB929.st := triFin_hds (k := 4) (L1 := stB850) (hihB hK) (by kernel_rfl) runB851 (tB932 hK)
theorem tB934 {W : World} (hK : KB W) : TC W 23 vsB849 stB847.st (vvB387) stB929.st := callT_fin Tryz.func23 bdB23 (by kernel_rfl) (n := 46) (by kernel_rfl) (by kernel_rfl) (tB933 hK)
theorem tB939 {W : World} (hK : KB W) : TX W pB25 stB845.act stB845.st .normal stB937 := by
  refine tx_region (by kernel_rfl) ?_
  refine triOps_cut (i := 0) (j := 2) (L1 := stB847) (hihB hK) (by kernel_rfl) runB848 (by kernel_rfl) ?_
  refine triOps_call (i := 2) (f := 23) (fi := #[]) (ca := #[]) (v := vvB387) (L0 := stB847) (Lc := stB929) (L1 := stB935) rfl rfl (by kernel_rfl) (by kernel_rfl) (by kernel_rfl) (by kernel_rfl) (tB934 hK) runB936 ?_
  exact triOps_end (i := 3) (L1 := stB937) (hihB hK) runB938 (by kernel_rfl)
theorem tB942 {W : World} (hK : KB W) : TF W Tryz.f22 pB85 stB937.act stB937.st (.tuple #[.int .i64 2, .int .i64 0]) stB940.st := triFin_code (hihB hK) runB941
theorem tB943 {W : World} (hK : KB W) : TF W Tryz.f22 pB24 stB845.act stB845.st (.tuple #[.int .i64 2, .int .i64 0]) stB940.st := tf_seq (by kernel_rfl) (tB939 hK) (tB942 hK)
theorem tB944 {W : World} (hK : KB W) : TF W Tryz.f22 cdB22 ({ n := 17, t := PT.ofList 0 (PT.nil 8) vsB844, defers := [] }) stB842.st (.tuple #[.int .i64 2, .int .i64 0]) stB940.st := triFin_hds (k := 1) (L1 := stB845) (hihB hK) (by kernel_rfl) runB846 (tB943 hK)
theorem tB945 {W : World} (hK : KB W) : TC W 22 vsB844 stB842.st (.tuple #[.int .i64 2, .int .i64 0]) stB940.st := callT_fin Tryz.func22 bdB22 (by kernel_rfl) (n := 17) (by kernel_rfl) (by kernel_rfl) (tB944 hK)
theorem tB950 {W : World} (hK : KB W) : TX W pB21 stB840.act stB840.st .normal stB948 := by
  refine tx_region (by kernel_rfl) ?_
  refine triOps_cut (i := 0) (j := 3) (L1 := stB842) (hihB hK) (by kernel_rfl) runB843 (by kernel_rfl) ?_
  refine triOps_call (i := 3) (f := 22) (fi := #[]) (ca := #[]) (v := .tuple #[.int .i64 2, .int .i64 0]) (L0 := stB842) (Lc := stB940) (L1 := stB946) rfl rfl (by kernel_rfl) (by kernel_rfl) (by kernel_rfl) (by kernel_rfl) (tB945 hK) runB947 ?_
  exact triOps_end (i := 4) (L1 := stB948) (hihB hK) runB949 (by kernel_rfl)
theorem tB953 {W : World} (hK : KB W) : TX W pB86 stB948.act stB948.st .normal stB951 := triX_code (hihB hK) runB952
theorem tB954 {W : World} (hK : KB W) : TX W pB20 stB840.act stB840.st .normal stB951 := tx_seq (by kernel_rfl) (tB950 hK) (tB953 hK)
theorem tB955 {W : World} (hK : KB W) : TX W pB14 stB838.act stB838.st .normal stB951 := triX_hds (k := 2) (L1 := stB840) (hihB hK) (by kernel_rfl) runB841 (tB954 hK)
theorem tB956 {W : World} (hK : KB W) : TX W pB13 stB838.act stB838.st .normal stB951 := tx_through (by kernel_rfl) (by kernel_rfl) (tB955 hK)
theorem tB959 {W : World} (hK : KB W) : TX W pB88 stB951.act stB951.st .normal stB957 := triX_code (hihB hK) runB958
theorem tB960 {W : World} (hK : KB W) : TX W pB12 stB838.act stB838.st .normal stB957 := tx_seq (by kernel_rfl) (tB956 hK) (tB959 hK)
theorem tB961 {W : World} (hK : KB W) : TX W pB11 stB836.act stB836.st .normal stB957 := triX_hds (k := 2) (L1 := stB838) (hihB hK) (by kernel_rfl) runB839 (tB960 hK)
theorem tB966 {W : World} (hK : KB W) : TX W pB11 stB962.act stB962.st (.exit 0) stB964 := triX_code (hihB hK) runB965
theorem tB967 {W : World} (hK : KB W) : TX W pB10 stB836.act stB836.st (.exit 0) stB964 := tx_loop (m := 3) (by kernel_rfl) rfl (.next (tB961 hK) (rounds_run (hihB hK) runB963 (.last (tB966 hK))))
theorem tB968 {W : World} (hK : KB W) : TX W pB9 stB836.act stB836.st .normal stB964 := tx_block (by kernel_rfl) (tB967 hK)
theorem tB969 {W : World} (hK : KB W) : TX W pB8 stB834.act stB834.st .normal stB964 := triX_hds (k := 1) (L1 := stB836) (hihB hK) (by kernel_rfl) runB837 (tB968 hK)
theorem tB972 {W : World} (hK : KB W) : TF W Tryz.f4 pB96 stB964.act stB964.st (vvB393) stB970.st := triFin_code (hihB hK) runB971
theorem tB973 {W : World} (hK : KB W) : TF W Tryz.f4 pB7 stB834.act stB834.st (vvB393) stB970.st := tf_seq (by kernel_rfl) (tB969 hK) (tB972 hK)
theorem tB974 {W : World} (hK : KB W) : TF W Tryz.f4 cdB4 ({ n := 52, t := PT.ofList 0 (PT.nil 8) vsB833, defers := [] }) stB831.st (vvB393) stB970.st := triFin_hds (k := 4) (L1 := stB834) (hihB hK) (by kernel_rfl) runB835 (tB973 hK)
theorem tB975 {W : World} (hK : KB W) : TC W 4 vsB833 stB831.st (vvB393) stB970.st := callT_fin Tryz.func4 bdB4 (by kernel_rfl) (n := 52) (by kernel_rfl) (by kernel_rfl) (tB974 hK)
theorem tB980 {W : World} (hK : KB W) : TX W pB106 stB829.act stB829.st .normal stB978 := by
  refine tx_region (by kernel_rfl) ?_
  refine triOps_cut (i := 0) (j := 1) (L1 := stB831) (hihB hK) (by kernel_rfl) runB832 (by kernel_rfl) ?_
  refine triOps_call (i := 1) (f := 4) (fi := #[]) (ca := #[]) (v := vvB393) (L0 := stB831) (Lc := stB970) (L1 := stB976) rfl rfl (by kernel_rfl) (by kernel_rfl) (by kernel_rfl) (by kernel_rfl) (tB975 hK) runB977 ?_
  exact triOps_end (i := 2) (L1 := stB978) (hihB hK) runB979 (by kernel_rfl)
theorem tB983 {W : World} (hK : KB W) : TF W Tryz.f17 pB143 stB978.act stB978.st (.tuple #[.int .i64 4, .int .i64 0]) stB981.st := triFin_code (hihB hK) runB982
theorem tB984 {W : World} (hK : KB W) : TF W Tryz.f17 pB105 stB829.act stB829.st (.tuple #[.int .i64 4, .int .i64 0]) stB981.st := tf_seq (by kernel_rfl) (tB980 hK) (tB983 hK)
theorem tB985 {W : World} (hK : KB W) : TF W Tryz.f17 cdB17 ({ n := 30, t := PT.ofList 0 (PT.nil 8) vsB828, defers := [] }) stB826.st (.tuple #[.int .i64 4, .int .i64 0]) stB981.st := triFin_hds (k := 1) (L1 := stB829) (hihB hK) (by kernel_rfl) runB830 (tB984 hK)
theorem tB986 {W : World} (hK : KB W) : TC W 17 vsB828 stB826.st (.tuple #[.int .i64 4, .int .i64 0]) stB981.st := callT_fin Tryz.func17 bdB17 (by kernel_rfl) (n := 30) (by kernel_rfl) (by kernel_rfl) (tB985 hK)
theorem tB991 {W : World} (hK : KB W) : TX W pB104 stB824.act stB824.st .normal stB989 := by
  refine tx_region (by kernel_rfl) ?_
  refine triOps_cut (i := 0) (j := 1) (L1 := stB826) (hihB hK) (by kernel_rfl) runB827 (by kernel_rfl) ?_
  refine triOps_call (i := 1) (f := 17) (fi := #[]) (ca := #[]) (v := .tuple #[.int .i64 4, .int .i64 0]) (L0 := stB826) (Lc := stB981) (L1 := stB987) rfl rfl (by kernel_rfl) (by kernel_rfl) (by kernel_rfl) (by kernel_rfl) (tB986 hK) runB988 ?_
  exact triOps_end (i := 2) (L1 := stB989) (hihB hK) runB990 (by kernel_rfl)
theorem tB994 {W : World} (hK : KB W) : TX W pB144 stB989.act stB989.st .normal stB992 := triX_code (hihB hK) runB993
theorem tB995 {W : World} (hK : KB W) : TX W pB103 stB824.act stB824.st .normal stB992 := tx_seq (by kernel_rfl) (tB991 hK) (tB994 hK)
theorem tB1033 {W : World} (hK : KB W) : TF W Tryz.f55 pB64 stB1029.act stB1029.st (vvB415) stB1031.st := triFin_code (hihB hK) runB1032
theorem tB1034 {W : World} (hK : KB W) : TF W Tryz.f55 cdB55 ({ n := 62, t := PT.ofList 0 (PT.nil 8) vsB1028, defers := [] }) stB1026.st (vvB415) stB1031.st := triFin_hds (k := 3) (L1 := stB1029) (hihB hK) (by kernel_rfl) runB1030 (tB1033 hK)
theorem tB1035 {W : World} (hK : KB W) : TC W 55 vsB1028 stB1026.st (vvB415) stB1031.st := callT_fin Tryz.func55 bdB55 (by kernel_rfl) (n := 62) (by kernel_rfl) (by kernel_rfl) (tB1034 hK)
theorem tB1040 {W : World} (hK : KB W) : TX W pB53 stB1024.act stB1024.st .normal stB1038 := by
  refine tx_region (by kernel_rfl) ?_
  refine triOps_cut (i := 0) (j := 3) (L1 := stB1026) (hihB hK) (by kernel_rfl) runB1027 (by kernel_rfl) ?_
  refine triOps_call (i := 3) (f := 55) (fi := #[]) (ca := #[]) (v := vvB415) (L0 := stB1026) (Lc := stB1031) (L1 := stB1036) rfl rfl (by kernel_rfl) (by kernel_rfl) (by kernel_rfl) (by kernel_rfl) (tB1035 hK) runB1037 ?_
  exact triOps_end (i := 4) (L1 := stB1038) (hihB hK) runB1039 (by kernel_rfl)
theorem tB1043 {W : World} (hK : KB W) : TX W pB71 stB1038.act stB1038.st .normal stB1041 := triX_code (hihB hK) runB1042
theorem tB1044 {W : World} (hK : KB W) : TX W pB52 stB1024.act stB1024.st .normal stB1041 := tx_seq (by kernel_rfl) (tB1040 hK) (tB1043 hK)
theorem tB1045 {W : World} (hK : KB W) : TX W pB51 stB1022.act stB1022.st .normal stB1041 := triX_hds (k := 1) (L1 := stB1024) (hihB hK) (by kernel_rfl) runB1025 (tB1044 hK)
theorem tB1046 {W : World} (hK : KB W) : TX W pB50 stB1022.act stB1022.st .normal stB1041 := tx_through (by kernel_rfl) (by kernel_rfl) (tB1045 hK)
theorem tB1049 {W : World} (hK : KB W) : TX W pB72 stB1041.act stB1041.st .normal stB1047 := triX_code (hihB hK) runB1048
theorem tB1050 {W : World} (hK : KB W) : TX W pB49 stB1022.act stB1022.st .normal stB1047 := tx_seq (by kernel_rfl) (tB1046 hK) (tB1049 hK)
theorem tB1051 {W : World} (hK : KB W) : TX W pB48 stB1020.act stB1020.st .normal stB1047 := triX_hds (k := 2) (L1 := stB1022) (hihB hK) (by kernel_rfl) runB1023 (tB1050 hK)
theorem tB1054 {W : World} (hK : KB W) : TX W pB48 stB1047.act stB1047.st (.exit 0) stB1052 := triX_code (hihB hK) runB1053
theorem tB1055 {W : World} (hK : KB W) : TX W pB47 stB1020.act stB1020.st (.exit 0) stB1052 := tx_loop (m := 1) (by kernel_rfl) rfl (.next (tB1051 hK) (.last (tB1054 hK)))
theorem tB1056 {W : World} (hK : KB W) : TX W pB46 stB1020.act stB1020.st .normal stB1052 := tx_block (by kernel_rfl) (tB1055 hK)
theorem tB1057 {W : World} (hK : KB W) : TX W pB45 stB1018.act stB1018.st .normal stB1052 := triX_hds (k := 1) (L1 := stB1020) (hihB hK) (by kernel_rfl) runB1021 (tB1056 hK)
theorem tB1060 {W : World} (hK : KB W) : TF W Tryz.f36 pB73 stB1052.act stB1052.st (vvB421) stB1058.st := triFin_code (hihB hK) runB1059
theorem tB1061 {W : World} (hK : KB W) : TF W Tryz.f36 pB44 stB1018.act stB1018.st (vvB421) stB1058.st := tf_seq (by kernel_rfl) (tB1057 hK) (tB1060 hK)
theorem tB1062 {W : World} (hK : KB W) : TF W Tryz.f36 cdB36 ({ n := 89, t := PT.ofList 0 (PT.nil 8) vsB1017, defers := [] }) stB1015.st (vvB421) stB1058.st := triFin_hds (k := 7) (L1 := stB1018) (hihB hK) (by kernel_rfl) runB1019 (tB1061 hK)
theorem tB1063 {W : World} (hK : KB W) : TC W 36 vsB1017 stB1015.st (vvB421) stB1058.st := callT_fin Tryz.func36 bdB36 (by kernel_rfl) (n := 89) (by kernel_rfl) (by kernel_rfl) (tB1062 hK)
theorem tB1068 {W : World} (hK : KB W) : TX W pB35 stB1013.act stB1013.st .normal stB1066 := by
  refine tx_region (by kernel_rfl) ?_
  refine triOps_cut (i := 0) (j := 3) (L1 := stB1015) (hihB hK) (by kernel_rfl) runB1016 (by kernel_rfl) ?_
  refine triOps_call (i := 3) (f := 36) (fi := #[]) (ca := #[]) (v := vvB421) (L0 := stB1015) (Lc := stB1058) (L1 := stB1064) rfl rfl (by kernel_rfl) (by kernel_rfl) (by kernel_rfl) (by kernel_rfl) (tB1063 hK) runB1065 ?_
  exact triOps_end (i := 4) (L1 := stB1066) (hihB hK) runB1067 (by kernel_rfl)
theorem tB1071 {W : World} (hK : KB W) : TX W pB80 stB1066.act stB1066.st .normal stB1069 := triX_code (hihB hK) runB1070
theorem tB1072 {W : World} (hK : KB W) : TX W pB34 stB1013.act stB1013.st .normal stB1069 := tx_seq (by kernel_rfl) (tB1068 hK) (tB1071 hK)
theorem tB1073 {W : World} (hK : KB W) : TX W pB33 stB1011.act stB1011.st .normal stB1069 := triX_hds (k := 1) (L1 := stB1013) (hihB hK) (by kernel_rfl) runB1014 (tB1072 hK)
theorem tB1074 {W : World} (hK : KB W) : TX W pB32 stB1011.act stB1011.st .normal stB1069 := tx_through (by kernel_rfl) (by kernel_rfl) (tB1073 hK)
theorem tB1077 {W : World} (hK : KB W) : TX W pB82 stB1069.act stB1069.st .normal stB1075 := triX_code (hihB hK) runB1076
theorem tB1078 {W : World} (hK : KB W) : TX W pB31 stB1011.act stB1011.st .normal stB1075 := tx_seq (by kernel_rfl) (tB1074 hK) (tB1077 hK)
theorem tB1079 {W : World} (hK : KB W) : TX W pB30 stB1009.act stB1009.st .normal stB1075 := triX_hds (k := 2) (L1 := stB1011) (hihB hK) (by kernel_rfl) runB1012 (tB1078 hK)
theorem tB1082 {W : World} (hK : KB W) : TX W pB30 stB1075.act stB1075.st (.exit 0) stB1080 := triX_code (hihB hK) runB1081
theorem tB1083 {W : World} (hK : KB W) : TX W pB29 stB1009.act stB1009.st (.exit 0) stB1080 := tx_loop (m := 1) (by kernel_rfl) rfl (.next (tB1079 hK) (.last (tB1082 hK)))
theorem tB1084 {W : World} (hK : KB W) : TX W pB28 stB1009.act stB1009.st .normal stB1080 := tx_block (by kernel_rfl) (tB1083 hK)
theorem tB1085 {W : World} (hK : KB W) : TX W pB27 stB1007.act stB1007.st .normal stB1080 := triX_hds (k := 1) (L1 := stB1009) (hihB hK) (by kernel_rfl) runB1010 (tB1084 hK)
theorem tB1088 {W : World} (hK : KB W) : TF W Tryz.f23 pB83 stB1080.act stB1080.st (vvB423) stB1086.st := triFin_code (hihB hK) runB1087
theorem tB1089 {W : World} (hK : KB W) : TF W Tryz.f23 pB26 stB1007.act stB1007.st (vvB423) stB1086.st := tf_seq (by kernel_rfl) (tB1085 hK) (tB1088 hK)
theorem tB1090 {W : World} (hK : KB W) : TF W Tryz.f23 cdB23 ({ n := 46, t := PT.ofList 0 (PT.nil 8) vsB1006, defers := [] }) stB1004.st (vvB423) stB1086.st := triFin_hds (k := 4) (L1 := stB1007) (hihB hK) (by kernel_rfl) runB1008 (tB1089 hK)
theorem tB1091 {W : World} (hK : KB W) : TC W 23 vsB1006 stB1004.st (vvB423) stB1086.st := callT_fin Tryz.func23 bdB23 (by kernel_rfl) (n := 46) (by kernel_rfl) (by kernel_rfl) (tB1090 hK)
theorem tB1096 {W : World} (hK : KB W) : TX W pB160 stB1002.act stB1002.st .normal stB1094 := by
  refine tx_region (by kernel_rfl) ?_
  refine triOps_cut (i := 0) (j := 5) (L1 := stB1004) (hihB hK) (by kernel_rfl) runB1005 (by kernel_rfl) ?_
  refine triOps_call (i := 5) (f := 23) (fi := #[]) (ca := #[]) (v := vvB423) (L0 := stB1004) (Lc := stB1086) (L1 := stB1092) rfl rfl (by kernel_rfl) (by kernel_rfl) (by kernel_rfl) (by kernel_rfl) (tB1091 hK) runB1093 ?_
  exact triOps_end (i := 6) (L1 := stB1094) (hihB hK) runB1095 (by kernel_rfl)
theorem tB1097 {W : World} (hK : KB W) : TX W pB156 stB1000.act stB1000.st .normal stB1094 := triX_hds (k := 2) (L1 := stB1002) (hihB hK) (by kernel_rfl) runB1003 (tB1096 hK)
theorem tB1098 {W : World} (hK : KB W) : TX W pB155 stB1000.act stB1000.st .normal stB1094 := tx_through (by kernel_rfl) (by kernel_rfl) (tB1097 hK)
theorem tB1101 {W : World} (hK : KB W) : TX W pB187 stB1094.act stB1094.st .normal stB1099 := triX_code (hihB hK) runB1100
theorem tB1102 {W : World} (hK : KB W) : TX W pB154 stB1000.act stB1000.st .normal stB1099 := tx_seq (by kernel_rfl) (tB1098 hK) (tB1101 hK)
theorem tB1103 {W : World} (hK : KB W) : TX W pB153 stB998.act stB998.st .normal stB1099 := triX_hds (k := 2) (L1 := stB1000) (hihB hK) (by kernel_rfl) runB1001 (tB1102 hK)
theorem tB1108 {W : World} (hK : KB W) : TX W pB153 stB1104.act stB1104.st (.exit 0) stB1106 := triX_code (hihB hK) runB1107
theorem tB1109 {W : World} (hK : KB W) : TX W pB152 stB998.act stB998.st (.exit 0) stB1106 := tx_loop (m := 3) (by kernel_rfl) rfl (.next (tB1103 hK) (rounds_run (hihB hK) runB1105 (.last (tB1108 hK))))
theorem tB1110 {W : World} (hK : KB W) : TX W pB151 stB998.act stB998.st .normal stB1106 := tx_block (by kernel_rfl) (tB1109 hK)
theorem tB1111 {W : World} (hK : KB W) : TX W pB150 stB996.act stB996.st .normal stB1106 := triX_hds (k := 1) (L1 := stB998) (hihB hK) (by kernel_rfl) runB999 (tB1110 hK)
theorem tB1114 {W : World} (hK : KB W) : TF W Tryz.f6 pB200 stB1106.act stB1106.st (vvB445) stB1112.st := triFin_code (hihB hK) runB1113
theorem tB1115 {W : World} (hK : KB W) : TF W Tryz.f6 pB149 stB996.act stB996.st (vvB445) stB1112.st := tf_seq (by kernel_rfl) (tB1111 hK) (tB1114 hK)
theorem tB1116 {W : World} (hK : KB W) : TF W Tryz.f6 pB145 stB992.act stB992.st (vvB445) stB1112.st := triFin_hds (k := 2) (L1 := stB996) (hihB hK) (by kernel_rfl) runB997 (tB1115 hK)
theorem tB1117 {W : World} (hK : KB W) : TF W Tryz.f6 pB102 stB824.act stB824.st (vvB445) stB1112.st := tf_seq (by kernel_rfl) (tB995 hK) (tB1116 hK)
theorem tB1118 {W : World} (hK : KB W) : TF W Tryz.f6 cdB6 ({ n := 66, t := PT.ofList 0 (PT.nil 8) vsB823, defers := [] }) stB821.st (vvB445) stB1112.st := triFin_hds (k := 1) (L1 := stB824) (hihB hK) (by kernel_rfl) runB825 (tB1117 hK)
theorem tB1119 {W : World} (hK : KB W) : TC W 6 vsB823 stB821.st (vvB445) stB1112.st := callT_fin Tryz.func6 bdB6 (by kernel_rfl) (n := 66) (by kernel_rfl) (by kernel_rfl) (tB1118 hK)
theorem tB1124 {W : World} (hK : KB W) : TX W pB238 stB819.act stB819.st .normal stB1122 := by
  refine tx_region (by kernel_rfl) ?_
  refine triOps_cut (i := 0) (j := 1) (L1 := stB821) (hihB hK) (by kernel_rfl) runB822 (by kernel_rfl) ?_
  refine triOps_call (i := 1) (f := 6) (fi := #[]) (ca := #[]) (v := vvB445) (L0 := stB821) (Lc := stB1112) (L1 := stB1120) rfl rfl (by kernel_rfl) (by kernel_rfl) (by kernel_rfl) (by kernel_rfl) (tB1119 hK) runB1121 ?_
  exact triOps_end (i := 2) (L1 := stB1122) (hihB hK) runB1123 (by kernel_rfl)
theorem tB1135 {W : World} (hK : KB W) : TX W pB332 stB1131.act stB1131.st (.exit 0) stB1133 := triX_code (hihB hK) runB1134
theorem tB1136 {W : World} (hK : KB W) : TX W pB331 stB1127.act stB1127.st (.exit 0) stB1133 := tx_loop (m := 4) (by kernel_rfl) rfl (rounds_run (hihB hK) runB1130 (rounds_run (hihB hK) runB1132 (.last (tB1135 hK))))
theorem tB1137 {W : World} (hK : KB W) : TX W pB330 stB1127.act stB1127.st .normal stB1133 := tx_block (by kernel_rfl) (tB1136 hK)
theorem tB1138 {W : World} (hK : KB W) : TX W pB329 stB1125.act stB1125.st .normal stB1133 := triX_hds (k := 1) (L1 := stB1127) (hihB hK) (by kernel_rfl) runB1128 (tB1137 hK)
theorem tB1141 {W : World} (hK : KB W) : TF W Tryz.f26 pB346 stB1133.act stB1133.st (vvB454) stB1139.st := triFin_code (hihB hK) runB1140
theorem tB1142 {W : World} (hK : KB W) : TF W Tryz.f26 pB328 stB1125.act stB1125.st (vvB454) stB1139.st := tf_seq (by kernel_rfl) (tB1138 hK) (tB1141 hK)
theorem tB1143 {W : World} (hK : KB W) : TF W Tryz.f26 pB327 stB1122.act stB1122.st (vvB454) stB1139.st := triFin_hds (k := 2) (L1 := stB1125) (hihB hK) (by kernel_rfl) runB1126 (tB1142 hK)
theorem tB1144 {W : World} (hK : KB W) : TF W Tryz.f26 pB237 stB819.act stB819.st (vvB454) stB1139.st := tf_seq (by kernel_rfl) (tB1124 hK) (tB1143 hK)
theorem tB1145 {W : World} (hK : KB W) : TF W Tryz.f26 cdB26 ({ n := 42, t := PT.ofList 0 (PT.nil 8) vsB818, defers := [] }) stB816.st (vvB454) stB1139.st := triFin_hds (k := 1) (L1 := stB819) (hihB hK) (by kernel_rfl) runB820 (tB1144 hK)
theorem tB1146 {W : World} (hK : KB W) : TC W 26 vsB818 stB816.st (vvB454) stB1139.st := callT_fin Tryz.func26 bdB26 (by kernel_rfl) (n := 42) (by kernel_rfl) (by kernel_rfl) (tB1145 hK)
theorem tB1151 {W : World} (hK : KB W) : TX W pB236 stB814.act stB814.st .normal stB1149 := by
  refine tx_region (by kernel_rfl) ?_
  refine triOps_cut (i := 0) (j := 1) (L1 := stB816) (hihB hK) (by kernel_rfl) runB817 (by kernel_rfl) ?_
  refine triOps_call (i := 1) (f := 26) (fi := #[]) (ca := #[]) (v := vvB454) (L0 := stB816) (Lc := stB1139) (L1 := stB1147) rfl rfl (by kernel_rfl) (by kernel_rfl) (by kernel_rfl) (by kernel_rfl) (tB1146 hK) runB1148 ?_
  exact triOps_end (i := 2) (L1 := stB1149) (hihB hK) runB1150 (by kernel_rfl)
theorem tB1154 {W : World} (hK : KB W) : TF W Tryz.f9 pB348 stB1149.act stB1149.st (.tuple #[.slice none 0 0, .int .i64 0]) stB1152.st := triFin_code (hihB hK) runB1153
theorem tB1155 {W : World} (hK : KB W) : TF W Tryz.f9 pB235 stB814.act stB814.st (.tuple #[.slice none 0 0, .int .i64 0]) stB1152.st := tf_seq (by kernel_rfl) (tB1151 hK) (tB1154 hK)
theorem tB1156 {W : World} (hK : KB W) : TF W Tryz.f9 cdB9 ({ n := 56, t := PT.ofList 0 (PT.nil 8) vsB813, defers := [] }) stB811.st (.tuple #[.slice none 0 0, .int .i64 0]) stB1152.st := triFin_hds (k := 3) (L1 := stB814) (hihB hK) (by kernel_rfl) runB815 (tB1155 hK)
theorem tB1157 {W : World} (hK : KB W) : TC W 9 vsB813 stB811.st (.tuple #[.slice none 0 0, .int .i64 0]) stB1152.st := callT_fin Tryz.func9 bdB9 (by kernel_rfl) (n := 56) (by kernel_rfl) (by kernel_rfl) (tB1156 hK)
theorem tB1162 {W : World} (hK : KB W) : TX W pB352 stB808.act stB808.st .normal stB1160 := by
  refine tx_region (by kernel_rfl) ?_
  refine triOps_cut (i := 0) (j := 2) (L1 := stB811) (hihB hK) (by kernel_rfl) runB812 (by kernel_rfl) ?_
  refine triOps_call (i := 2) (f := 9) (fi := #[]) (ca := #[]) (v := .tuple #[.slice none 0 0, .int .i64 0]) (L0 := stB811) (Lc := stB1152) (L1 := stB1158) rfl rfl (by kernel_rfl) (by kernel_rfl) (by kernel_rfl) (by kernel_rfl) (tB1157 hK) runB1159 ?_
  exact triOps_end (i := 3) (L1 := stB1160) (hihB hK) runB1161 (by kernel_rfl)
theorem tB1165 {W : World} (hK : KB W) : TF W Tryz.f3 pB455 stB1160.act stB1160.st (vt) stB1163.st := triFin_code (hihB hK) runB1164
theorem tB1166 {W : World} (hK : KB W) : TF W Tryz.f3 pB351 stB808.act stB808.st (vt) stB1163.st := tf_seq (by kernel_rfl) (tB1162 hK) (tB1165 hK)
theorem tB1167 {W : World} (hK : KB W) : TF W Tryz.f3 pB228 stB457.act stB457.st (vt) stB1163.st := tf_seq (by kernel_rfl) (tB810 hK) (tB1166 hK)
theorem tB1168 {W : World} (hK : KB W) : TF W Tryz.f3 pB211 stB454.act stB454.st (vt) stB1163.st := triFin_hds (k := 4) (L1 := stB457) (hihB hK) (by kernel_rfl) runB458 (tB1167 hK)
theorem tB1169 {W : World} (hK : KB W) : TF W Tryz.f3 pB98 stB150.act stB150.st (vt) stB1163.st := tf_seq (by kernel_rfl) (tB456 hK) (tB1168 hK)
theorem tB1170 {W : World} (hK : KB W) : TF W Tryz.f3 pB0 stB1.act stB1.st (vt) stB1163.st := tf_seq (by kernel_rfl) (tB152 hK) (tB1169 hK)
theorem tB1171 {W : World} (hK : KB W) : TF W Tryz.f3 cdB3 ({ n := 195, t := PT.ofList 0 (PT.nil 8) vsB0, defers := [] }) start0 (vt) stB1163.st := triFin_hds (k := 1) (L1 := stB1) (hihB hK) (by kernel_rfl) runB2 (tB1170 hK)
theorem tB1172 {W : World} (hK : KB W) : TC W 3 vsB0 start0 (vt) stB1163.st := callT_fin Tryz.func3 bdB3 (by kernel_rfl) (n := 195) (by kernel_rfl) (by kernel_rfl) (tB1171 hK)

noncomputable def of0 : List Value := (dc Tryz.prog 9 144 Rows.laid_tactus_sign_classes).getD []
noncomputable def of1 : List Value := (dc Tryz.prog 9 40 Rows.laid_tactus_item_half).getD []
noncomputable def of2 : List Value := (dc Tryz.prog 9 201 Rows.laid_tactus_sign_uses).getD []
theorem listed_is : listed = [(0, of0), (1, of1), (2, of2)] := by kernel_rfl
theorem listed_eq : ∀ g l, (g, l) ∈ listed → (g = 0 ∧ l = of0) ∨ (g = 1 ∧ l = of1) ∨ (g = 2 ∧ l = of2) := by
  rw [listed_is]
  intro g l h
  simpa only [List.mem_cons, Prod.mk.injEq, List.not_mem_nil, or_false] using h
def Laids (laid : List (String × DataW Unit)) : Prop := ("tactus/sign.classes", Rows.laid_tactus_sign_classes) ∈ laid ∧ ("tactus/item.half", Rows.laid_tactus_item_half) ∈ laid ∧ ("tactus/sign.uses", Rows.laid_tactus_sign_uses) ∈ laid

def Met (W : World) : Prop := ∀ g l, (g, l) ∈ listed → ∃ (arr : Array Value) (e : TypeId) (fz : Nat × Nat), W.heap[g]? = some (.cells arr e fz) ∧ arr.toList = l
theorem listed_met {laid : List (String × DataW Unit)} (hm : Laids laid) {W : World} (h : laidMet Tryz.prog laid W) : Met W := by
  obtain ⟨ps, hv, _⟩ := h
  obtain ⟨m0, m1, m2⟩ := hm
  intro g l hgl
  rcases listed_eq g l hgl with ⟨rfl, rfl⟩ | ⟨rfl, rfl⟩ | ⟨rfl, rfl⟩
  · exact laid_cells laid ps hv _ _ m0 0 144 9 _ (by kernel_rfl) (by kernel_rfl) (by kernel_rfl)
  · exact laid_cells laid ps hv _ _ m1 1 40 9 _ (by kernel_rfl) (by kernel_rfl) (by kernel_rfl)
  · exact laid_cells laid ps hv _ _ m2 2 201 9 _ (by kernel_rfl) (by kernel_rfl) (by kernel_rfl)

theorem listed_flat : ∀ g l, (g, l) ∈ listed → ∀ v ∈ l, flatV flatN v = true := by
  have : listed.all (fun x => x.2.all (flatV flatN)) = true := by kernel_rfl
  intro g l hgl v hv
  exact List.all_eq_true.1 (List.all_eq_true.1 this (g, l) hgl) v hv

theorem size_le {W : World} (h : Met W) : Tryz.prog.globals.size ≤ W.heap.size := by
  have h5 : (2, of2) ∈ listed := by
    rw [listed_is]; simp
  obtain ⟨arr, e, fz, h1, _⟩ := h 2 _ h5
  have h2 := (Array.getElem?_eq_some_iff.1 h1).1
  have h3 : Tryz.prog.globals.size = 3 := by kernel_rfl
  omega

theorem met_later {W W1 : World} (hk : Kept W W1) (h : Met W) : Met W1 := by
  intro g l hgl
  obtain ⟨arr, e, fz, h1, h2⟩ := h g l hgl
  exact ⟨arr, e, fz, by rw [hk.old g (Array.getElem?_eq_some_iff.1 h1).1]; exact h1, h2⟩

theorem known_F {W : World} (_ : Met W) : KnownSound Tryz.prog (kk noCall) W := ⟨ext_sound _, fun _ _ _ _ h => by cases h⟩
theorem true_F {W : World} (h : Met W) : Calls Tryz.prog 18 #[] W fun e w => e = .returned (.bool true) ∧ Kept W w :=
  call_true Tryz.func18 bdF18 (by kernel_rfl) (tF7 (known_F h)) (size_le h) h listed_flat

theorem known_A {W : World} (_ : Met W) : KnownSound Tryz.prog (kk noCall) W := ⟨ext_sound _, fun _ _ _ _ h => by cases h⟩
theorem true_A {W : World} (h : Met W) : Calls Tryz.prog 19 #[] W fun e w => e = .returned (.bool true) ∧ Kept W w :=
  call_true Tryz.func19 bdA19 (by kernel_rfl) (tA527 (known_A h)) (size_le h) h listed_flat

theorem known_M {W : World} (_ : Met W) : KnownSound Tryz.prog (kk noCall) W := ⟨ext_sound _, fun _ _ _ _ h => by cases h⟩
theorem mem_known {W : World} (h : Met W) : ∀ f vs bl v, (f, vs, bl, v) ∈ memL → scalarV v = true ∧ ∃ fn c, Tryz.prog.funcs[f]? = some fn ∧ fn.body = some c ∧ (fn.name == "runtime.NumGoroutine") = false ∧
    ∀ w, Kept W w → ∃ T, CallT Tryz.prog ⟨w, fun _ => false⟩ f vs (addAll (startS listed Tryz.prog.globals.size) bl) v T := by
  intro f vs bl v hm
  simp only [memL, List.mem_cons, Prod.mk.injEq, List.not_mem_nil, or_false] at hm
  rcases hm with ⟨rfl, rfl, rfl, rfl⟩ | ⟨rfl, rfl, rfl, rfl⟩ | ⟨rfl, rfl, rfl, rfl⟩
  · exact ⟨rfl, Tryz.f12, _, Tryz.func12, bdM12, by kernel_rfl, fun w hk => ⟨_, tM55 (known_M (met_later hk h))⟩⟩
  · exact ⟨rfl, Tryz.f12, _, Tryz.func12, bdM12, by kernel_rfl, fun w hk => ⟨_, tM111 (known_M (met_later hk h))⟩⟩
  · exact ⟨rfl, Tryz.f12, _, Tryz.func12, bdM12, by kernel_rfl, fun w hk => ⟨_, tM116 (known_M (met_later hk h))⟩⟩
theorem start0n_is : start0n = Tryz.prog.globals.size := by kernel_rfl
theorem known_B {W : World} (h : Met W) : KnownSound Tryz.prog (kk callK19K18M) W := by
  refine ⟨ext_sound _, fun f args S v hv => ?_⟩
  simp only [kk, callK19K18M] at hv
  split at hv
  · cases hb19 : Nat.beq f 19 with
    | true =>
      rw [hb19] at hv
      cases hv
      obtain rfl := of_nbeq hb19
      exact ⟨fun ρ => .bool _, Tryz.f19, _, Tryz.func19, bdA19, by kernel_rfl, zeroKnown fun w hk => true_A (met_later hk h)⟩
    | false =>
      rw [hb19] at hv
      simp only [cond_false] at hv
      cases hb18 : Nat.beq f 18 with
    | true =>
      rw [hb18] at hv
      cases hv
      obtain rfl := of_nbeq hb18
      exact ⟨fun ρ => .bool _, Tryz.f18, _, Tryz.func18, bdF18, by kernel_rfl, zeroKnown fun w hk => true_F (met_later hk h)⟩
    | false =>
      rw [hb18] at hv
      simp only [cond_false] at hv
      cases hv
  · exact memKnown start0n_is (start0n_is ▸ size_le h) h listed_flat (mem_known h) hv
theorem true_B {W : World} (h : Met W) : Calls Tryz.prog 3 #[] W fun e w => e = .returned (.bool true) ∧ Kept W w :=
  call_true Tryz.func3 bdB3 (by kernel_rfl) (tB1172 (known_B h)) (size_le h) h listed_flat

end Go.Proofs.YteclhllliigapaaGreatDoor

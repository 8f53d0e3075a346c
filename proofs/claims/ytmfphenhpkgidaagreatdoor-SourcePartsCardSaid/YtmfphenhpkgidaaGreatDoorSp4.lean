/-
  The law's own examples hold: SourceParts returns true in every world that holds the listed variables.
-/
import Derived.Test.YtmfphenhpkgidaaGreatDoorSpR0
import Derived.Test.YtmfphenhpkgidaaGreatDoorSpR1
import Derived.Test.YtmfphenhpkgidaaGreatDoorSpR2
import Derived.Test.YtmfphenhpkgidaaGreatDoorSpR3
import Derived.Test.YtmfphenhpkgidaaGreatDoorSpR4
import Derived.Test.YtmfphenhpkgidaaGreatDoorSpR5
import Derived.Test.YtmfphenhpkgidaaGreatDoorSpR6
import Derived.Test.YtmfphenhpkgidaaGreatDoorSpR7
namespace Go.Proofs.YtmfphenhpkgidaaGreatDoor
open Go.Cm
set_option maxRecDepth 100000
theorem tA41{W:World}(hK:KA W):TF W Tryz.f79 pA53 stA37.act stA37.st (vvA59) stA39.st:=triFin_code (hihA hK) runA40
theorem tA42{W:World}(hK:KA W):TF W Tryz.f79 cdA79 ({n:=66,t:=PT.ofList 0 (PT.nil 8) vsA36,defers:=[]}) stA34.st (vvA59) stA39.st:=triFin_hds (k:=2) (L1:=stA37) (hihA hK) (by kernel_rfl) runA38 (tA41 hK)
theorem tA43{W:World}(hK:KA W):TC W 79 vsA36 stA34.st (vvA59) stA39.st:=callT_fin Tryz.func79 bdA79 (by kernel_rfl) (n:=66) (by kernel_rfl) (by kernel_rfl) (tA42 hK)
theorem tA48{W:World}(hK:KA W):TX W pA52 stA32.act stA32.st .normal stA46:=by
 refine tx_region (by kernel_rfl) ?_
 refine triOps_cut (i:=0) (j:=1) (L1:=stA34) (hihA hK) (by kernel_rfl) runA35 (by kernel_rfl) ?_
 refine triOps_call (i:=1) (f:=79) (fi:= #[]) (ca:= #[]) (v:=vvA59) (L0:=stA34) (Lc:=stA39) (L1:=stA44) rfl rfl (by kernel_rfl) (by kernel_rfl) (by kernel_rfl) (by kernel_rfl) (tA43 hK) runA45 ?_
 exact triOps_end (i:=2) (L1:=stA46) (hihA hK) runA47 (by kernel_rfl)
theorem tA51{W:World}(hK:KA W):TF W Tryz.f97 pA60 stA46.act stA46.st (vvA62) stA49.st:=triFin_code (hihA hK) runA50
theorem tA52{W:World}(hK:KA W):TF W Tryz.f97 pA51 stA32.act stA32.st (vvA62) stA49.st:=tf_seq (by kernel_rfl) (tA48 hK) (tA51 hK)
theorem tA53{W:World}(hK:KA W):TF W Tryz.f97 cdA97 ({n:=42,t:=PT.ofList 0 (PT.nil 8) vsA31,defers:=[]}) stA29.st (vvA62) stA49.st:=triFin_hds (k:=1) (L1:=stA32) (hihA hK) (by kernel_rfl) runA33 (tA52 hK)
theorem tA54{W:World}(hK:KA W):TC W 97 vsA31 stA29.st (vvA62) stA49.st:=callT_fin Tryz.func97 bdA97 (by kernel_rfl) (n:=42) (by kernel_rfl) (by kernel_rfl) (tA53 hK)
theorem tA59{W:World}(hK:KA W):TX W pA50 stA27.act stA27.st .normal stA57:=by
 refine tx_region (by kernel_rfl) ?_
 refine triOps_cut (i:=0) (j:=1) (L1:=stA29) (hihA hK) (by kernel_rfl) runA30 (by kernel_rfl) ?_
 refine triOps_call (i:=1) (f:=97) (fi:= #[]) (ca:= #[]) (v:=vvA62) (L0:=stA29) (Lc:=stA49) (L1:=stA55) rfl rfl (by kernel_rfl) (by kernel_rfl) (by kernel_rfl) (by kernel_rfl) (tA54 hK) runA56 ?_
 exact triOps_end (i:=2) (L1:=stA57) (hihA hK) runA58 (by kernel_rfl)
theorem tA62{W:World}(hK:KA W):TF W Tryz.f78 pA63 stA57.act stA57.st (vvA65) stA60.st:=triFin_code (hihA hK) runA61
theorem tA63{W:World}(hK:KA W):TF W Tryz.f78 pA49 stA27.act stA27.st (vvA65) stA60.st:=tf_seq (by kernel_rfl) (tA59 hK) (tA62 hK)
theorem tA64{W:World}(hK:KA W):TF W Tryz.f78 cdA78 ({n:=45,t:=PT.ofList 0 (PT.nil 8) vsA26,defers:=[]}) stA24.st (vvA65) stA60.st:=triFin_hds (k:=1) (L1:=stA27) (hihA hK) (by kernel_rfl) runA28 (tA63 hK)
theorem tA65{W:World}(hK:KA W):TC W 78 vsA26 stA24.st (vvA65) stA60.st:=callT_fin Tryz.func78 bdA78 (by kernel_rfl) (n:=45) (by kernel_rfl) (by kernel_rfl) (tA64 hK)
theorem tA70{W:World}(hK:KA W):TX W pA48 stA22.act stA22.st .normal stA68:=by
 refine tx_region (by kernel_rfl) ?_
 refine triOps_cut (i:=0) (j:=1) (L1:=stA24) (hihA hK) (by kernel_rfl) runA25 (by kernel_rfl) ?_
 refine triOps_call (i:=1) (f:=78) (fi:= #[]) (ca:= #[]) (v:=vvA65) (L0:=stA24) (Lc:=stA60) (L1:=stA66) rfl rfl (by kernel_rfl) (by kernel_rfl) (by kernel_rfl) (by kernel_rfl) (tA65 hK) runA67 ?_
 exact triOps_end (i:=2) (L1:=stA68) (hihA hK) runA69 (by kernel_rfl)
theorem tA80{W:World}(hK:KA W):TF W Tryz.f79 pA53 stA76.act stA76.st (vvA70) stA78.st:=triFin_code (hihA hK) runA79
theorem tA81{W:World}(hK:KA W):TF W Tryz.f79 cdA79 ({n:=66,t:=PT.ofList 0 (PT.nil 8) vsA75,defers:=[]}) stA73.st (vvA70) stA78.st:=triFin_hds (k:=2) (L1:=stA76) (hihA hK) (by kernel_rfl) runA77 (tA80 hK)
theorem tA82{W:World}(hK:KA W):TC W 79 vsA75 stA73.st (vvA70) stA78.st:=callT_fin Tryz.func79 bdA79 (by kernel_rfl) (n:=66) (by kernel_rfl) (by kernel_rfl) (tA81 hK)
theorem tA87{W:World}(hK:KA W):TX W pA68 stA71.act stA71.st .normal stA85:=by
 refine tx_region (by kernel_rfl) ?_
 refine triOps_cut (i:=0) (j:=1) (L1:=stA73) (hihA hK) (by kernel_rfl) runA74 (by kernel_rfl) ?_
 refine triOps_call (i:=1) (f:=79) (fi:= #[]) (ca:= #[]) (v:=vvA70) (L0:=stA73) (Lc:=stA78) (L1:=stA83) rfl rfl (by kernel_rfl) (by kernel_rfl) (by kernel_rfl) (by kernel_rfl) (tA82 hK) runA84 ?_
 exact triOps_end (i:=2) (L1:=stA85) (hihA hK) runA86 (by kernel_rfl)
theorem tA90{W:World}(hK:KA W):TX W pA71 stA85.act stA85.st .normal stA88:=triX_code (hihA hK) runA89
theorem tA91{W:World}(hK:KA W):TX W pA67 stA71.act stA71.st .normal stA88:=tx_seq (by kernel_rfl) (tA87 hK) (tA90 hK)
theorem tA92{W:World}(hK:KA W):TX W pA66 stA68.act stA68.st .normal stA88:=triX_hds (k:=2) (L1:=stA71) (hihA hK) (by kernel_rfl) runA72 (tA91 hK)
theorem tA93{W:World}(hK:KA W):TX W pA47 stA22.act stA22.st .normal stA88:=tx_seq (by kernel_rfl) (tA70 hK) (tA92 hK)
theorem tA94{W:World}(hK:KA W):TX W pA44 stA20.act stA20.st .normal stA88:=triX_hds (k:=1) (L1:=stA22) (hihA hK) (by kernel_rfl) runA23 (tA93 hK)
theorem tA95{W:World}(hK:KA W):TX W pA43 stA20.act stA20.st .normal stA88:=tx_through (by kernel_rfl) (by kernel_rfl) (tA94 hK)
theorem tA98{W:World}(hK:KA W):TX W pA80 stA88.act stA88.st .normal stA96:=triX_code (hihA hK) runA97
theorem tA99{W:World}(hK:KA W):TX W pA42 stA20.act stA20.st .normal stA96:=tx_seq (by kernel_rfl) (tA95 hK) (tA98 hK)
theorem tA100{W:World}(hK:KA W):TX W pA41 stA18.act stA18.st .normal stA96:=triX_hds (k:=2) (L1:=stA20) (hihA hK) (by kernel_rfl) runA21 (tA99 hK)
theorem tA122{W:World}(hK:KA W):TF W Tryz.f79 pA86 stA118.act stA118.st (vvA90) stA120.st:=triFin_code (hihA hK) runA121
theorem tA123{W:World}(hK:KA W):TF W Tryz.f79 cdA79 ({n:=66,t:=PT.ofList 0 (PT.nil 8) vsA117,defers:=[]}) stA115.st (vvA90) stA120.st:=triFin_hds (k:=4) (L1:=stA118) (hihA hK) (by kernel_rfl) runA119 (tA122 hK)
theorem tA124{W:World}(hK:KA W):TC W 79 vsA117 stA115.st (vvA90) stA120.st:=callT_fin Tryz.func79 bdA79 (by kernel_rfl) (n:=66) (by kernel_rfl) (by kernel_rfl) (tA123 hK)
theorem tA129{W:World}(hK:KA W):TX W pA52 stA113.act stA113.st .normal stA127:=by
 refine tx_region (by kernel_rfl) ?_
 refine triOps_cut (i:=0) (j:=1) (L1:=stA115) (hihA hK) (by kernel_rfl) runA116 (by kernel_rfl) ?_
 refine triOps_call (i:=1) (f:=79) (fi:= #[]) (ca:= #[]) (v:=vvA90) (L0:=stA115) (Lc:=stA120) (L1:=stA125) rfl rfl (by kernel_rfl) (by kernel_rfl) (by kernel_rfl) (by kernel_rfl) (tA124 hK) runA126 ?_
 exact triOps_end (i:=2) (L1:=stA127) (hihA hK) runA128 (by kernel_rfl)
theorem tA132{W:World}(hK:KA W):TF W Tryz.f97 pA60 stA127.act stA127.st (vvA91) stA130.st:=triFin_code (hihA hK) runA131
theorem tA133{W:World}(hK:KA W):TF W Tryz.f97 pA51 stA113.act stA113.st (vvA91) stA130.st:=tf_seq (by kernel_rfl) (tA129 hK) (tA132 hK)
theorem tA134{W:World}(hK:KA W):TF W Tryz.f97 cdA97 ({n:=42,t:=PT.ofList 0 (PT.nil 8) vsA112,defers:=[]}) stA110.st (vvA91) stA130.st:=triFin_hds (k:=1) (L1:=stA113) (hihA hK) (by kernel_rfl) runA114 (tA133 hK)
theorem tA135{W:World}(hK:KA W):TC W 97 vsA112 stA110.st (vvA91) stA130.st:=callT_fin Tryz.func97 bdA97 (by kernel_rfl) (n:=42) (by kernel_rfl) (by kernel_rfl) (tA134 hK)
theorem tA140{W:World}(hK:KA W):TX W pA50 stA108.act stA108.st .normal stA138:=by
 refine tx_region (by kernel_rfl) ?_
 refine triOps_cut (i:=0) (j:=1) (L1:=stA110) (hihA hK) (by kernel_rfl) runA111 (by kernel_rfl) ?_
 refine triOps_call (i:=1) (f:=97) (fi:= #[]) (ca:= #[]) (v:=vvA91) (L0:=stA110) (Lc:=stA130) (L1:=stA136) rfl rfl (by kernel_rfl) (by kernel_rfl) (by kernel_rfl) (by kernel_rfl) (tA135 hK) runA137 ?_
 exact triOps_end (i:=2) (L1:=stA138) (hihA hK) runA139 (by kernel_rfl)
theorem tA143{W:World}(hK:KA W):TF W Tryz.f78 pA63 stA138.act stA138.st (vvA92) stA141.st:=triFin_code (hihA hK) runA142
theorem tA144{W:World}(hK:KA W):TF W Tryz.f78 pA49 stA108.act stA108.st (vvA92) stA141.st:=tf_seq (by kernel_rfl) (tA140 hK) (tA143 hK)
theorem tA145{W:World}(hK:KA W):TF W Tryz.f78 cdA78 ({n:=45,t:=PT.ofList 0 (PT.nil 8) vsA107,defers:=[]}) stA105.st (vvA92) stA141.st:=triFin_hds (k:=1) (L1:=stA108) (hihA hK) (by kernel_rfl) runA109 (tA144 hK)
theorem tA146{W:World}(hK:KA W):TC W 78 vsA107 stA105.st (vvA92) stA141.st:=callT_fin Tryz.func78 bdA78 (by kernel_rfl) (n:=45) (by kernel_rfl) (by kernel_rfl) (tA145 hK)
theorem tA151{W:World}(hK:KA W):TX W pA48 stA103.act stA103.st .normal stA149:=by
 refine tx_region (by kernel_rfl) ?_
 refine triOps_cut (i:=0) (j:=1) (L1:=stA105) (hihA hK) (by kernel_rfl) runA106 (by kernel_rfl) ?_
 refine triOps_call (i:=1) (f:=78) (fi:= #[]) (ca:= #[]) (v:=vvA92) (L0:=stA105) (Lc:=stA141) (L1:=stA147) rfl rfl (by kernel_rfl) (by kernel_rfl) (by kernel_rfl) (by kernel_rfl) (tA146 hK) runA148 ?_
 exact triOps_end (i:=2) (L1:=stA149) (hihA hK) runA150 (by kernel_rfl)
theorem tA161{W:World}(hK:KA W):TF W Tryz.f79 pA86 stA157.act stA157.st (vvA95) stA159.st:=triFin_code (hihA hK) runA160
theorem tA162{W:World}(hK:KA W):TF W Tryz.f79 cdA79 ({n:=66,t:=PT.ofList 0 (PT.nil 8) vsA156,defers:=[]}) stA154.st (vvA95) stA159.st:=triFin_hds (k:=4) (L1:=stA157) (hihA hK) (by kernel_rfl) runA158 (tA161 hK)
theorem tA163{W:World}(hK:KA W):TC W 79 vsA156 stA154.st (vvA95) stA159.st:=callT_fin Tryz.func79 bdA79 (by kernel_rfl) (n:=66) (by kernel_rfl) (by kernel_rfl) (tA162 hK)
theorem tA168{W:World}(hK:KA W):TX W pA68 stA152.act stA152.st .normal stA166:=by
 refine tx_region (by kernel_rfl) ?_
 refine triOps_cut (i:=0) (j:=1) (L1:=stA154) (hihA hK) (by kernel_rfl) runA155 (by kernel_rfl) ?_
 refine triOps_call (i:=1) (f:=79) (fi:= #[]) (ca:= #[]) (v:=vvA95) (L0:=stA154) (Lc:=stA159) (L1:=stA164) rfl rfl (by kernel_rfl) (by kernel_rfl) (by kernel_rfl) (by kernel_rfl) (tA163 hK) runA165 ?_
 exact triOps_end (i:=2) (L1:=stA166) (hihA hK) runA167 (by kernel_rfl)
theorem tA171{W:World}(hK:KA W):TX W pA71 stA166.act stA166.st .normal stA169:=triX_code (hihA hK) runA170
theorem tA172{W:World}(hK:KA W):TX W pA67 stA152.act stA152.st .normal stA169:=tx_seq (by kernel_rfl) (tA168 hK) (tA171 hK)
theorem tA173{W:World}(hK:KA W):TX W pA66 stA149.act stA149.st .normal stA169:=triX_hds (k:=2) (L1:=stA152) (hihA hK) (by kernel_rfl) runA153 (tA172 hK)
theorem tA174{W:World}(hK:KA W):TX W pA47 stA103.act stA103.st .normal stA169:=tx_seq (by kernel_rfl) (tA151 hK) (tA173 hK)
theorem tA175{W:World}(hK:KA W):TX W pA44 stA101.act stA101.st .normal stA169:=triX_hds (k:=1) (L1:=stA103) (hihA hK) (by kernel_rfl) runA104 (tA174 hK)
theorem tA176{W:World}(hK:KA W):TX W pA43 stA101.act stA101.st .normal stA169:=tx_through (by kernel_rfl) (by kernel_rfl) (tA175 hK)
theorem tA179{W:World}(hK:KA W):TX W pA80 stA169.act stA169.st .normal stA177:=triX_code (hihA hK) runA178
theorem tA180{W:World}(hK:KA W):TX W pA42 stA101.act stA101.st .normal stA177:=tx_seq (by kernel_rfl) (tA176 hK) (tA179 hK)
theorem tA181{W:World}(hK:KA W):TX W pA41 stA96.act stA96.st .normal stA177:=triX_hds (k:=2) (L1:=stA101) (hihA hK) (by kernel_rfl) runA102 (tA180 hK)
theorem tA184{W:World}(hK:KA W):TX W pA41 stA177.act stA177.st (.exit 0) stA182:=triX_code (hihA hK) runA183
theorem tA185{W:World}(hK:KA W):TX W pA40 stA18.act stA18.st (.exit 0) stA182:=tx_loop (m:=2) (by kernel_rfl) rfl (.next (tA100 hK) (.next (tA181 hK) (.last (tA184 hK))))
theorem tA186{W:World}(hK:KA W):TX W pA39 stA18.act stA18.st .normal stA182:=tx_block (by kernel_rfl) (tA185 hK)
theorem tA187{W:World}(hK:KA W):TX W pA38 stA16.act stA16.st .normal stA182:=triX_hds (k:=1) (L1:=stA18) (hihA hK) (by kernel_rfl) runA19 (tA186 hK)
theorem tA190{W:World}(hK:KA W):TF W Tryz.f56 pA102 stA182.act stA182.st (vvA103) stA188.st:=triFin_code (hihA hK) runA189
theorem tA191{W:World}(hK:KA W):TF W Tryz.f56 pA37 stA16.act stA16.st (vvA103) stA188.st:=tf_seq (by kernel_rfl) (tA187 hK) (tA190 hK)
theorem tA192{W:World}(hK:KA W):TF W Tryz.f56 cdA56 ({n:=79,t:=PT.ofList 0 (PT.nil 8) vsA15,defers:=[]}) stA13.st (vvA103) stA188.st:=triFin_hds (k:=4) (L1:=stA16) (hihA hK) (by kernel_rfl) runA17 (tA191 hK)
theorem tA193{W:World}(hK:KA W):TC W 56 vsA15 stA13.st (vvA103) stA188.st:=callT_fin Tryz.func56 bdA56 (by kernel_rfl) (n:=79) (by kernel_rfl) (by kernel_rfl) (tA192 hK)
theorem tA198{W:World}(hK:KA W):TX W pA32 stA11.act stA11.st .normal stA196:=by
 refine tx_region (by kernel_rfl) ?_
 refine triOps_cut (i:=0) (j:=1) (L1:=stA13) (hihA hK) (by kernel_rfl) runA14 (by kernel_rfl) ?_
 refine triOps_call (i:=1) (f:=56) (fi:= #[]) (ca:= #[]) (v:=vvA103) (L0:=stA13) (Lc:=stA188) (L1:=stA194) rfl rfl (by kernel_rfl) (by kernel_rfl) (by kernel_rfl) (by kernel_rfl) (tA193 hK) runA195 ?_
 exact triOps_end (i:=2) (L1:=stA196) (hihA hK) runA197 (by kernel_rfl)
theorem tA201{W:World}(hK:KA W):TF W Tryz.f55 pA104 stA196.act stA196.st (vvA105) stA199.st:=triFin_code (hihA hK) runA200
theorem tA202{W:World}(hK:KA W):TF W Tryz.f55 pA31 stA11.act stA11.st (vvA105) stA199.st:=tf_seq (by kernel_rfl) (tA198 hK) (tA201 hK)
theorem tA203{W:World}(hK:KA W):TF W Tryz.f55 cdA55 ({n:=41,t:=PT.ofList 0 (PT.nil 8) vsA10,defers:=[]}) stA8.st (vvA105) stA199.st:=triFin_hds (k:=1) (L1:=stA11) (hihA hK) (by kernel_rfl) runA12 (tA202 hK)
theorem tA204{W:World}(hK:KA W):TC W 55 vsA10 stA8.st (vvA105) stA199.st:=callT_fin Tryz.func55 bdA55 (by kernel_rfl) (n:=41) (by kernel_rfl) (by kernel_rfl) (tA203 hK)
theorem tA209{W:World}(hK:KA W):TX W pA30 stA6.act stA6.st .normal stA207:=by
 refine tx_region (by kernel_rfl) ?_
 refine triOps_cut (i:=0) (j:=1) (L1:=stA8) (hihA hK) (by kernel_rfl) runA9 (by kernel_rfl) ?_
 refine triOps_call (i:=1) (f:=55) (fi:= #[]) (ca:= #[]) (v:=vvA105) (L0:=stA8) (Lc:=stA199) (L1:=stA205) rfl rfl (by kernel_rfl) (by kernel_rfl) (by kernel_rfl) (by kernel_rfl) (tA204 hK) runA206 ?_
 exact triOps_end (i:=2) (L1:=stA207) (hihA hK) runA208 (by kernel_rfl)
theorem tA212{W:World}(hK:KA W):TF W Tryz.f34 pA106 stA207.act stA207.st (vt) stA210.st:=triFin_code (hihA hK) runA211
theorem tA213{W:World}(hK:KA W):TF W Tryz.f34 pA29 stA6.act stA6.st (vt) stA210.st:=tf_seq (by kernel_rfl) (tA209 hK) (tA212 hK)
theorem tA214{W:World}(hK:KA W):TF W Tryz.f34 cdA34 ({n:=38,t:=PT.ofList 0 (PT.nil 8) vsA5,defers:=[]}) stA3.st (vt) stA210.st:=triFin_hds (k:=1) (L1:=stA6) (hihA hK) (by kernel_rfl) runA7 (tA213 hK)
theorem tA215{W:World}(hK:KA W):TC W 34 vsA5 stA3.st (vt) stA210.st:=callT_fin Tryz.func34 bdA34 (by kernel_rfl) (n:=38) (by kernel_rfl) (by kernel_rfl) (tA214 hK)
theorem tA220{W:World}(hK:KA W):TX W pA18 stA1.act stA1.st .normal stA218:=by
 refine tx_region (by kernel_rfl) ?_
 refine triOps_cut (i:=0) (j:=30) (L1:=stA3) (hihA hK) (by kernel_rfl) runA4 (by kernel_rfl) ?_
 refine triOps_call (i:=30) (f:=34) (fi:= #[]) (ca:= #[]) (v:=vt) (L0:=stA3) (Lc:=stA210) (L1:=stA216) rfl rfl (by kernel_rfl) (by kernel_rfl) (by kernel_rfl) (by kernel_rfl) (tA215 hK) runA217 ?_
 exact triOps_end (i:=31) (L1:=stA218) (hihA hK) runA219 (by kernel_rfl)
theorem tA223{W:World}(hK:KA W):TF W Tryz.f7 pA107 stA218.act stA218.st (vt) stA221.st:=triFin_code (hihA hK) runA222
theorem tA224{W:World}(hK:KA W):TF W Tryz.f7 pA17 stA1.act stA1.st (vt) stA221.st:=tf_seq (by kernel_rfl) (tA220 hK) (tA223 hK)
theorem tA225{W:World}(hK:KA W):TF W Tryz.f7 cdA7 ({n:=52,t:=PT.ofList 0 (PT.nil 8) vsA0,defers:=[]}) start0 (vt) stA221.st:=triFin_hds (k:=3) (L1:=stA1) (hihA hK) (by kernel_rfl) runA2 (tA224 hK)
theorem tA226{W:World}(hK:KA W):TC W 7 vsA0 start0 (vt) stA221.st:=callT_fin Tryz.func7 bdA7 (by kernel_rfl) (n:=52) (by kernel_rfl) (by kernel_rfl) (tA225 hK)
noncomputable def of0:List Value:=(dc Tryz.prog 9 107 Rows.laid_tactus_sign_uses).getD []
noncomputable def of1:List Value:=(dc Tryz.prog 9 281 Rows.laid_tactus_sign_classes).getD []
noncomputable def of2:List Value:=(dc Tryz.prog 9 103 Rows.laid_tactus_item_half).getD []
theorem listed_is:listed= [(0,of0),(1,of1),(2,of2)]:=by kernel_rfl
theorem listed_eq:∀g l,(g,l)∈listed→(g=0∧l=of0)∨(g=1∧l=of1)∨(g=2∧l=of2):=by
 rw[listed_is]
 intro g l h
 simpa only[List.mem_cons,Prod.mk.injEq,List.not_mem_nil,or_false]using h
def Laids(laid:List (String×DataW Unit)):Prop:=("tactus/sign.uses",Rows.laid_tactus_sign_uses)∈laid∧("tactus/sign.classes",Rows.laid_tactus_sign_classes)∈laid∧("tactus/item.half",Rows.laid_tactus_item_half)∈laid
def Met(W:World):Prop:= ∀g l,(g,l)∈listed→∃(arr:Array Value) (e:TypeId) (fz:Nat×Nat),W.heap[g]?=some (.cells arr e fz)∧arr.toList=l
theorem listed_met{laid:List (String×DataW Unit)}(hm:Laids laid){W:World}(h:laidMet Tryz.prog laid W):Met W:=by
 obtain⟨ps,hv,_⟩:=h
 obtain⟨m0,m1,m2⟩:=hm
 intro g l hgl
 rcases listed_eq g l hgl with ⟨rfl,rfl⟩|⟨rfl,rfl⟩|⟨rfl,rfl⟩
 ·exact laid_cells laid ps hv _ _ m0 0 107 9 _ (by kernel_rfl) (by kernel_rfl) (by kernel_rfl)
 ·exact laid_cells laid ps hv _ _ m1 1 281 9 _ (by kernel_rfl) (by kernel_rfl) (by kernel_rfl)
 exact laid_cells laid ps hv _ _ m2 2 103 9 _ (by kernel_rfl) (by kernel_rfl) (by kernel_rfl)
theorem listed_flat:∀g l,(g,l)∈listed→∀v∈l,flatV flatN v=true:=by
 have:listed.all (fun x=>x.2.all (flatV flatN))=true:=by kernel_rfl
 intro g l hgl v hv
 exact List.all_eq_true.1 (List.all_eq_true.1 this (g,l) hgl) v hv
theorem size_le{W:World}(h:Met W):Tryz.prog.globals.size≤W.heap.size:=by
 have h5:(2,of2)∈listed:=by
  rw[listed_is];simp
 obtain⟨arr,e,fz,h1,_⟩:=h 2 _ h5
 have h2:=(Array.getElem?_eq_some_iff.1 h1).1
 have h3:Tryz.prog.globals.size=3:=by kernel_rfl
 omega
theorem met_later{W W1:World}(hk:Kept W W1)(h:Met W):Met W1:=by
 intro g l hgl
 obtain⟨arr,e,fz,h1,h2⟩:=h g l hgl
 exact⟨arr,e,fz,by rw[hk.old g (Array.getElem?_eq_some_iff.1 h1).1];exact h1,h2⟩
theorem known_A{W:World}(_:Met W):KnownSound Tryz.prog (kk noCall) W:=⟨ext_sound _,fun _ _ _ _ h=>by cases h⟩
theorem true_A{W:World}(h:Met W):Calls Tryz.prog 7 #[] W fun e w=>e= .returned (.bool true)∧Kept W w :=
 call_true Tryz.func7 bdA7 (by kernel_rfl) (tA226 (known_A h)) (size_le h) h listed_flat
end Go.Proofs.YtmfphenhpkgidaaGreatDoor

/-
  The law's own examples hold: SourceMore returns true in every world that holds the listed variables.
-/
import Derived.Test.YtmfphenhpkgidaaGreatDoorSkR0
import Derived.Test.YtmfphenhpkgidaaGreatDoorSkR1
import Derived.Test.YtmfphenhpkgidaaGreatDoorSkR2
import Derived.Test.YtmfphenhpkgidaaGreatDoorSkR3
import Derived.Test.YtmfphenhpkgidaaGreatDoorSkR4
import Derived.Test.YtmfphenhpkgidaaGreatDoorSkR5
import Derived.Test.YtmfphenhpkgidaaGreatDoorSkR6
import Derived.Test.YtmfphenhpkgidaaGreatDoorSkR7
import Derived.Test.YtmfphenhpkgidaaGreatDoorSkR8
import Derived.Test.YtmfphenhpkgidaaGreatDoorSkR9
import Derived.Test.YtmfphenhpkgidaaGreatDoorSkR10
import Derived.Test.YtmfphenhpkgidaaGreatDoorSkR11
import Derived.Test.YtmfphenhpkgidaaGreatDoorSkR12
import Derived.Test.YtmfphenhpkgidaaGreatDoorSkR13
import Derived.Test.YtmfphenhpkgidaaGreatDoorSkR14
import Derived.Test.YtmfphenhpkgidaaGreatDoorSkR15
import Derived.Test.YtmfphenhpkgidaaGreatDoorSkR16
import Derived.Test.YtmfphenhpkgidaaGreatDoorSkR17
import Derived.Test.YtmfphenhpkgidaaGreatDoorSkR18
import Derived.Test.YtmfphenhpkgidaaGreatDoorSkR19
import Derived.Test.YtmfphenhpkgidaaGreatDoorSkR20
import Derived.Test.YtmfphenhpkgidaaGreatDoorSkR21
import Derived.Test.YtmfphenhpkgidaaGreatDoorSkR22
namespace Go.Proofs.YtmfphenhpkgidaaGreatDoor
open Go.Cm
set_option maxRecDepth 100000
theorem APc{W:World}(hK:KA W):TF W Tryz.f79 b7 VP.act VP.st (OO) VQ.st:=Er (C0 hK) AKx
theorem APd{W:World}(hK:KA W):TF W Tryz.f79 T5 ({n:=66,t:=PT.ofList 0 (PT.nil 8) o8,defers:=[]}) SI.st (OO) VQ.st:=Es (k:=4) (L1:=VP) (C0 hK) AUt AKv (APc hK)
theorem APe{W:World}(hK:KA W):TC W 79 o8 SI.st (OO) VQ.st:=Ed Tryz.func79 qk AUt (n:=66) AUt AUt (APd hK)
theorem APf{W:World}(hK:KA W):TX W Xp Pz.act Pz.st .normal SJ:=by
 refine Fe AUt ?_
 refine FN (i:=0) (j:=1) (L1:=SI) (C0 hK) AUt AKu AUt ?_
 refine FM (i:=1) (f:=79) (fi:= #[]) (ca:= #[]) (v:=OO) (L0:=SI) (Lc:=VQ) (L1:=dB) rfl rfl AUt AUt AUt AUt (APe hK) AKy ?_
 exact Fc (i:=2) (L1:=SJ) (C0 hK) AKz AUt
theorem APg{W:World}(hK:KA W):TF W Tryz.f97 yQ SJ.act SJ.st (Mr) SK.st:=Er (C0 hK) AK0
theorem APh{W:World}(hK:KA W):TF W Tryz.f97 mI Pz.act Pz.st (Mr) SK.st:=G9 AUt (APf hK) (APg hK)
theorem APi{W:World}(hK:KA W):TF W Tryz.f97 ZT ({n:=42,t:=PT.ofList 0 (PT.nil 8) o7,defers:=[]}) SG.st (Mr) SK.st:=Es (k:=1) (L1:=Pz) (C0 hK) AUt AKt (APh hK)
theorem APj{W:World}(hK:KA W):TC W 97 o7 SG.st (Mr) SK.st:=Ed Tryz.func97 ADF AUt (n:=42) AUt AUt (APi hK)
theorem APk{W:World}(hK:KA W):TX W Xo Py.act Py.st .normal SL:=by
 refine Fe AUt ?_
 refine FN (i:=0) (j:=1) (L1:=SG) (C0 hK) AUt AKs AUt ?_
 refine FM (i:=1) (f:=97) (fi:= #[]) (ca:= #[]) (v:=Mr) (L0:=SG) (Lc:=SK) (L1:=dC) rfl rfl AUt AUt AUt AUt (APj hK) AK1 ?_
 exact Fc (i:=2) (L1:=SL) (C0 hK) AK2 AUt
theorem APl{W:World}(hK:KA W):TF W Tryz.f78 yR SL.act SL.st (Ke) SM.st:=Er (C0 hK) AK3
theorem APm{W:World}(hK:KA W):TF W Tryz.f78 mH Py.act Py.st (Ke) SM.st:=G9 AUt (APk hK) (APl hK)
theorem APn{W:World}(hK:KA W):TF W Tryz.f78 ZS ({n:=45,t:=PT.ofList 0 (PT.nil 8) o6,defers:=[]}) SF.st (Ke) SM.st:=Es (k:=1) (L1:=Py) (C0 hK) AUt AKr (APm hK)
theorem APo{W:World}(hK:KA W):TC W 78 o6 SF.st (Ke) SM.st:=Ed Tryz.func78 ADE AUt (n:=45) AUt AUt (APn hK)
theorem APp{W:World}(hK:KA W):TX W Xn Px.act Px.st .normal SN:=by
 refine Fe AUt ?_
 refine FN (i:=0) (j:=1) (L1:=SF) (C0 hK) AUt AKq AUt ?_
 refine FM (i:=1) (f:=78) (fi:= #[]) (ca:= #[]) (v:=Ke) (L0:=SF) (Lc:=SM) (L1:=dD) rfl rfl AUt AUt AUt AUt (APo hK) AK4 ?_
 exact Fc (i:=2) (L1:=SN) (C0 hK) AK5 AUt
theorem APq{W:World}(hK:KA W):TF W Tryz.f79 b7 VS.act VS.st (Ms) VU.st:=Er (C0 hK) AK'
theorem APr{W:World}(hK:KA W):TF W Tryz.f79 T5 ({n:=66,t:=PT.ofList 0 (PT.nil 8) pD,defers:=[]}) SO.st (Ms) VU.st:=Es (k:=4) (L1:=VS) (C0 hK) AUt AK9 (APq hK)
theorem APs{W:World}(hK:KA W):TC W 79 pD SO.st (Ms) VU.st:=Ed Tryz.func79 qk AUt (n:=66) AUt AUt (APr hK)
theorem APt{W:World}(hK:KA W):TX W Xq P1.act P1.st .normal SQ:=by
 refine Fe AUt ?_
 refine FN (i:=0) (j:=1) (L1:=SO) (C0 hK) AUt AK8 AUt ?_
 refine FM (i:=1) (f:=79) (fi:= #[]) (ca:= #[]) (v:=Ms) (L0:=SO) (Lc:=VU) (L1:=dE) rfl rfl AUt AUt AUt AUt (APs hK) ALA ?_
 exact Fc (i:=2) (L1:=SQ) (C0 hK) ALB AUt
theorem APu{W:World}(hK:KA W):TX W yS SQ.act SQ.st .normal La:=Hu (C0 hK) ALC
theorem APv{W:World}(hK:KA W):TX W mK P1.act P1.st .normal La:=IX AUt (APt hK) (APu hK)
theorem APw{W:World}(hK:KA W):TX W mJ SN.act SN.st .normal La:=Gs (k:=2) (L1:=P1) (C0 hK) AUt AK7 (APv hK)
theorem APx{W:World}(hK:KA W):TX W mG Px.act Px.st .normal La:=IX AUt (APp hK) (APw hK)
theorem APy{W:World}(hK:KA W):TX W U3 Mf.act Mf.st .normal La:=Gs (k:=1) (L1:=Px) (C0 hK) AUt AKp (APx hK)
theorem APz{W:World}(hK:KA W):TX W mF Mf.act Mf.st .normal La:=Vm AUt AUt (APy hK)
theorem AP0{W:World}(hK:KA W):TX W b8 La.act La.st .normal P2:=Hu (C0 hK) ALE
theorem AP1{W:World}(hK:KA W):TX W bz Mf.act Mf.st .normal P2:=IX AUt (APz hK) (AP0 hK)
theorem AO9{W:World}(hK:KA W):TX W Ro Me.act Me.st .normal P2:=Gs (k:=2) (L1:=Mf) (C0 hK) AUt AKo (AP1 hK)
theorem AO'{W:World}(hK:KA W):TX W yT VO.act VO.st .normal Ps:=Hu (C0 hK) AKW
theorem APA{W:World}(hK:KA W):TX W U3 Md.act Md.st .normal Ps:=Gs (k:=4) (L1:=VO) (C0 hK) AUt AKV (AO' hK)
theorem APB{W:World}(hK:KA W):TX W mF Md.act Md.st .normal Ps:=Vm AUt AUt (APA hK)
theorem APC{W:World}(hK:KA W):TX W b8 Ps.act Ps.st .normal Pv:=Hu (C0 hK) AKX
theorem APD{W:World}(hK:KA W):TX W bz Md.act Md.st .normal Pv:=IX AUt (APB hK) (APC hK)
theorem APE{W:World}(hK:KA W):TX W Ro P2.act P2.st .normal Pv:=Gs (k:=2) (L1:=Md) (C0 hK) AUt AKU (APD hK)
theorem APF{W:World}(hK:KA W):TX W Ro Pv.act Pv.st (.exit 0) OJ:=Hu (C0 hK) AKY
theorem APG{W:World}(hK:KA W):TX W yP Me.act Me.st (.exit 0) OJ:=oX (m:=2) AUt rfl (.next (AO9 hK) (.next (APE hK) (.last (APF hK))))
theorem APH{W:World}(hK:KA W):TX W yO Me.act Me.st .normal OJ:=oW AUt (APG hK)
theorem API{W:World}(hK:KA W):TX W mE Pw.act Pw.st .normal OJ:=Gs (k:=1) (L1:=Me) (C0 hK) AUt AKm (APH hK)
theorem APJ{W:World}(hK:KA W):TF W Tryz.f56 yU OJ.act OJ.st (Mp) R9.st:=Er (C0 hK) AKa
theorem APK{W:World}(hK:KA W):TF W Tryz.f56 mD Pw.act Pw.st (Mp) R9.st:=G9 AUt (API hK) (APJ hK)
theorem APL{W:World}(hK:KA W):TF W Tryz.f56 ZQ ({n:=79,t:=PT.ofList 0 (PT.nil 8) o0,defers:=[]}) SA.st (Mp) R9.st:=Es (k:=4) (L1:=Pw) (C0 hK) AUt AKl (APK hK)
theorem APM{W:World}(hK:KA W):TC W 56 o0 SA.st (Mp) R9.st:=Ed Tryz.func56 ADD AUt (n:=79) AUt AUt (APL hK)
theorem APN{W:World}(hK:KA W):TX W Xm Pu.act Pu.st .normal R':=by
 refine Fe AUt ?_
 refine FN (i:=0) (j:=1) (L1:=SA) (C0 hK) AUt AKf AUt ?_
 refine FM (i:=1) (f:=56) (fi:= #[]) (ca:= #[]) (v:=Mp) (L0:=SA) (Lc:=R9) (L1:=c7) rfl rfl AUt AUt AUt AUt (APM hK) AKb ?_
 exact Fc (i:=2) (L1:=R') (C0 hK) AKc AUt
theorem APO{W:World}(hK:KA W):TF W Tryz.f55 yL R'.act R'.st (Mq) SB.st:=Er (C0 hK) AKd
theorem APP{W:World}(hK:KA W):TF W Tryz.f55 mC Pu.act Pu.st (Mq) SB.st:=G9 AUt (APN hK) (APO hK)
theorem APQ{W:World}(hK:KA W):TF W Tryz.f55 ZP ({n:=41,t:=PT.ofList 0 (PT.nil 8) oz,defers:=[]}) SP.st (Mq) SB.st:=Es (k:=1) (L1:=Pu) (C0 hK) AUt AKZ (APP hK)
theorem APR{W:World}(hK:KA W):TC W 55 oz SP.st (Mq) SB.st:=Ed Tryz.func55 ADC AUt (n:=41) AUt AUt (APQ hK)
theorem APS{W:World}(hK:KA W):TX W Xl P0.act P0.st .normal SC:=by
 refine Fe AUt ?_
 refine FN (i:=0) (j:=1) (L1:=SP) (C0 hK) AUt ALD AUt ?_
 refine FM (i:=1) (f:=55) (fi:= #[]) (ca:= #[]) (v:=Mq) (L0:=SP) (Lc:=SB) (L1:=c8) rfl rfl AUt AUt AUt AUt (APR hK) AKe ?_
 exact Fc (i:=2) (L1:=SC) (C0 hK) AKg AUt
theorem APT{W:World}(hK:KA W):TF W Tryz.f34 yM SC.act SC.st (vt) SD.st:=Er (C0 hK) AKh
theorem APU{W:World}(hK:KA W):TF W Tryz.f34 mB P0.act P0.st (vt) SD.st:=G9 AUt (APS hK) (APT hK)
theorem APV{W:World}(hK:KA W):TF W Tryz.f34 ZO ({n:=38,t:=PT.ofList 0 (PT.nil 8) o9,defers:=[]}) SH.st (vt) SD.st:=Es (k:=1) (L1:=P0) (C0 hK) AUt AK6 (APU hK)
theorem APW{W:World}(hK:KA W):TC W 34 o9 SH.st (vt) SD.st:=Ed Tryz.func34 ADB AUt (n:=38) AUt AUt (APV hK)
theorem APX{W:World}(hK:KA W):TX W Xk Pq.act Pq.st .normal SE:=by
 refine Fe AUt ?_
 refine FN (i:=0) (j:=30) (L1:=SH) (C0 hK) AUt AKw AUt ?_
 refine FM (i:=30) (f:=34) (fi:= #[]) (ca:= #[]) (v:=vt) (L0:=SH) (Lc:=SD) (L1:=dA) rfl rfl AUt AUt AUt AUt (APW hK) AKi ?_
 exact Fc (i:=31) (L1:=SE) (C0 hK) AKj AUt
theorem APY{W:World}(hK:KA W):TF W Tryz.f7 yN SE.act SE.st (vt) YY.st:=Er (C0 hK) AKk
theorem APZ{W:World}(hK:KA W):TF W Tryz.f7 mA Pq.act Pq.st (vt) YY.st:=G9 AUt (APX hK) (APY hK)
theorem APa{W:World}(hK:KA W):TF W Tryz.f7 ZR ({n:=52,t:=PT.ofList 0 (PT.nil 8) ov,defers:=[]}) Vj (vt) YY.st:=Es (k:=3) (L1:=Pq) (C0 hK) AUt AKn (APZ hK)
theorem APb{W:World}(hK:KA W):TC W 7 ov Vj (vt) YY.st:=Ed Tryz.func7 ep AUt (n:=52) AUt AUt (APa hK)
theorem ARb{W:World}(hK:KB W):TF W Tryz.f79 KX Vf.act Vf.st (OQ) Vg.st:=Er (A1 hK) AMh
theorem ARc{W:World}(hK:KB W):TF W Tryz.f79 Il ({n:=66,t:=PT.ofList 0 (PT.nil 8) pX,defers:=[]}) TP.st (OQ) Vg.st:=Es (k:=4) (L1:=Vf) (A1 hK) AUt AMf (ARb hK)
theorem ARd{W:World}(hK:KB W):TC W 79 pX TP.st (OQ) Vg.st:=Ed Tryz.func79 Ty AUt (n:=66) AUt AUt (ARc hK)
theorem ARe{W:World}(hK:KB W):TX W IS QJ.act QJ.st .normal TT:=by
 refine Fe AUt ?_
 refine FN (i:=0) (j:=1) (L1:=TP) (A1 hK) AUt AMb AUt ?_
 refine FM (i:=1) (f:=79) (fi:= #[]) (ca:= #[]) (v:=OQ) (L0:=TP) (Lc:=Vg) (L1:=dW) rfl rfl AUt AUt AUt AUt (ARd hK) AMi ?_
 exact Fc (i:=2) (L1:=TT) (A1 hK) AMj AUt
theorem ARf{W:World}(hK:KB W):TF W Tryz.f97 U5 TT.act TT.st (Mz) TU.st:=Er (A1 hK) AMk
theorem ARg{W:World}(hK:KB W):TF W Tryz.f97 Xy QJ.act QJ.st (Mz) TU.st:=G9 AUt (ARe hK) (ARf hK)
theorem ARh{W:World}(hK:KB W):TF W Tryz.f97 Oj ({n:=42,t:=PT.ofList 0 (PT.nil 8) pW,defers:=[]}) TK.st (Mz) TU.st:=Es (k:=1) (L1:=QJ) (A1 hK) AUt AMV (ARg hK)
theorem ARi{W:World}(hK:KB W):TC W 97 pW TK.st (Mz) TU.st:=Ed Tryz.func97 ey AUt (n:=42) AUt AUt (ARh hK)
theorem ARj{W:World}(hK:KB W):TX W IQ QF.act QF.st .normal TV:=by
 refine Fe AUt ?_
 refine FN (i:=0) (j:=1) (L1:=TK) (A1 hK) AUt AMO AUt ?_
 refine FM (i:=1) (f:=97) (fi:= #[]) (ca:= #[]) (v:=Mz) (L0:=TK) (Lc:=TU) (L1:=dX) rfl rfl AUt AUt AUt AUt (ARi hK) AMl ?_
 exact Fc (i:=2) (L1:=TV) (A1 hK) AMm AUt
theorem ARk{W:World}(hK:KB W):TF W Tryz.f78 U6 TV.act TV.st (IY) TW.st:=Er (A1 hK) AMn
theorem ARl{W:World}(hK:KB W):TF W Tryz.f78 Xx QF.act QF.st (IY) TW.st:=G9 AUt (ARj hK) (ARk hK)
theorem ARm{W:World}(hK:KB W):TF W Tryz.f78 Oi ({n:=45,t:=PT.ofList 0 (PT.nil 8) pU,defers:=[]}) TA.st (IY) TW.st:=Es (k:=1) (L1:=QF) (A1 hK) AUt AMG (ARl hK)
theorem ARn{W:World}(hK:KB W):TC W 78 pU TA.st (IY) TW.st:=Ed Tryz.func78 eu AUt (n:=45) AUt AUt (ARm hK)
theorem ARo{W:World}(hK:KB W):TX W IP P'.act P'.st .normal TY:=by
 refine Fe AUt ?_
 refine FN (i:=0) (j:=1) (L1:=TA) (A1 hK) AUt AL7 AUt ?_
 refine FM (i:=1) (f:=78) (fi:= #[]) (ca:= #[]) (v:=IY) (L0:=TA) (Lc:=TW) (L1:=dY) rfl rfl AUt AUt AUt AUt (ARn hK) AMo ?_
 exact Fc (i:=2) (L1:=TY) (A1 hK) AMp AUt
theorem ARp{W:World}(hK:KB W):TF W Tryz.f79 KX Vh.act Vh.st (Ll) Vi.st:=Er (A1 hK) AMu
theorem ARq{W:World}(hK:KB W):TF W Tryz.f79 Il ({n:=66,t:=PT.ofList 0 (PT.nil 8) pZ,defers:=[]}) TZ.st (Ll) Vi.st:=Es (k:=4) (L1:=Vh) (A1 hK) AUt AMt (ARp hK)
theorem ARr{W:World}(hK:KB W):TC W 79 pZ TZ.st (Ll) Vi.st:=Ed Tryz.func79 Ty AUt (n:=66) AUt AUt (ARq hK)
theorem ARs{W:World}(hK:KB W):TX W IT QM.act QM.st .normal Tb:=by
 refine Fe AUt ?_
 refine FN (i:=0) (j:=1) (L1:=TZ) (A1 hK) AUt AMs AUt ?_
 refine FM (i:=1) (f:=79) (fi:= #[]) (ca:= #[]) (v:=Ll) (L0:=TZ) (Lc:=Vi) (L1:=dZ) rfl rfl AUt AUt AUt AUt (ARr hK) AMv ?_
 exact Fc (i:=2) (L1:=Tb) (A1 hK) AMw AUt
theorem ARt{W:World}(hK:KB W):TX W U7 Tb.act Tb.st .normal Lf:=Hu (A1 hK) AMx
theorem ARu{W:World}(hK:KB W):TX W Xz QM.act QM.st .normal Lf:=IX AUt (ARs hK) (ARt hK)
theorem ARv{W:World}(hK:KB W):TX W Rr TY.act TY.st .normal Lf:=Gs (k:=2) (L1:=QM) (A1 hK) AUt AMr (ARu hK)
theorem ARw{W:World}(hK:KB W):TX W Xw P'.act P'.st .normal Lf:=IX AUt (ARo hK) (ARv hK)
theorem ARx{W:World}(hK:KB W):TX W MS Mj.act Mj.st .normal Lf:=Gs (k:=1) (L1:=P') (A1 hK) AUt ALy (ARw hK)
theorem ARy{W:World}(hK:KB W):TX W Xv Mj.act Mj.st .normal Lf:=Vm AUt AUt (ARx hK)
theorem ARz{W:World}(hK:KB W):TX W PW Lf.act Lf.st .normal QN:=Hu (A1 hK) AMz
theorem AR0{W:World}(hK:KB W):TX W U4 Mj.act Mj.st .normal QN:=IX AUt (ARy hK) (ARz hK)
theorem AP2{W:World}(hK:KB W):TX W Jn Mi.act Mi.st .normal QN:=Gs (k:=2) (L1:=Mj) (A1 hK) AUt ALq (AR0 hK)
theorem AP3{W:World}(hK:KB W):TF W Tryz.f79 KX VV.act VV.st (OR) VW.st:=Er (A1 hK) ALO
theorem AP4{W:World}(hK:KB W):TF W Tryz.f79 Il ({n:=66,t:=PT.ofList 0 (PT.nil 8) pJ,defers:=[]}) SU.st (OR) VW.st:=Es (k:=4) (L1:=VV) (A1 hK) AUt ALM (AP3 hK)
theorem AP5{W:World}(hK:KB W):TC W 79 pJ SU.st (OR) VW.st:=Ed Tryz.func79 Ty AUt (n:=66) AUt AUt (AP4 hK)
theorem AP6{W:World}(hK:KB W):TX W IS P6.act P6.st .normal SV:=by
 refine Fe AUt ?_
 refine FN (i:=0) (j:=1) (L1:=SU) (A1 hK) AUt ALL AUt ?_
 refine FM (i:=1) (f:=79) (fi:= #[]) (ca:= #[]) (v:=OR) (L0:=SU) (Lc:=VW) (L1:=dG) rfl rfl AUt AUt AUt AUt (AP5 hK) ALP ?_
 exact Fc (i:=2) (L1:=SV) (A1 hK) ALQ AUt
theorem AP7{W:World}(hK:KB W):TF W Tryz.f97 U5 SV.act SV.st (M0) SY.st:=Er (A1 hK) ALR
theorem AP8{W:World}(hK:KB W):TF W Tryz.f97 Xy P6.act P6.st (M0) SY.st:=G9 AUt (AP6 hK) (AP7 hK)
theorem AP9{W:World}(hK:KB W):TF W Tryz.f97 Oj ({n:=42,t:=PT.ofList 0 (PT.nil 8) pH,defers:=[]}) SS.st (M0) SY.st:=Es (k:=1) (L1:=P6) (A1 hK) AUt ALK (AP8 hK)
theorem AP'{W:World}(hK:KB W):TC W 97 pH SS.st (M0) SY.st:=Ed Tryz.func97 ey AUt (n:=42) AUt AUt (AP9 hK)
theorem AQA{W:World}(hK:KB W):TX W IQ P4.act P4.st .normal SZ:=by
 refine Fe AUt ?_
 refine FN (i:=0) (j:=1) (L1:=SS) (A1 hK) AUt ALJ AUt ?_
 refine FM (i:=1) (f:=97) (fi:= #[]) (ca:= #[]) (v:=M0) (L0:=SS) (Lc:=SY) (L1:=dH) rfl rfl AUt AUt AUt AUt (AP' hK) ALS ?_
 exact Fc (i:=2) (L1:=SZ) (A1 hK) ALT AUt
theorem AQB{W:World}(hK:KB W):TF W Tryz.f78 U6 SZ.act SZ.st (M1) Sh.st:=Er (A1 hK) ALV
theorem AQC{W:World}(hK:KB W):TF W Tryz.f78 Xx P4.act P4.st (M1) Sh.st:=G9 AUt (AQA hK) (AQB hK)
theorem AQD{W:World}(hK:KB W):TF W Tryz.f78 Oi ({n:=45,t:=PT.ofList 0 (PT.nil 8) pG,defers:=[]}) SR.st (M1) Sh.st:=Es (k:=1) (L1:=P4) (A1 hK) AUt ALI (AQC hK)
theorem AQE{W:World}(hK:KB W):TC W 78 pG SR.st (M1) Sh.st:=Ed Tryz.func78 eu AUt (n:=45) AUt AUt (AQD hK)
theorem AQF{W:World}(hK:KB W):TX W IP P3.act P3.st .normal Si:=by
 refine Fe AUt ?_
 refine FN (i:=0) (j:=1) (L1:=SR) (A1 hK) AUt ALH AUt ?_
 refine FM (i:=1) (f:=78) (fi:= #[]) (ca:= #[]) (v:=M1) (L0:=SR) (Lc:=Sh) (L1:=dI) rfl rfl AUt AUt AUt AUt (AQE hK) ALW ?_
 exact Fc (i:=2) (L1:=Si) (A1 hK) ALX AUt
theorem AQG{W:World}(hK:KB W):TF W Tryz.f79 KX VX.act VX.st (M3) VY.st:=Er (A1 hK) ALb
theorem AQH{W:World}(hK:KB W):TF W Tryz.f79 Il ({n:=66,t:=PT.ofList 0 (PT.nil 8) pN,defers:=[]}) Sj.st (M3) VY.st:=Es (k:=4) (L1:=VX) (A1 hK) AUt ALa (AQG hK)
theorem AQI{W:World}(hK:KB W):TC W 79 pN Sj.st (M3) VY.st:=Ed Tryz.func79 Ty AUt (n:=66) AUt AUt (AQH hK)
theorem AQJ{W:World}(hK:KB W):TX W IT P7.act P7.st .normal Sn:=by
 refine Fe AUt ?_
 refine FN (i:=0) (j:=1) (L1:=Sj) (A1 hK) AUt ALZ AUt ?_
 refine FM (i:=1) (f:=79) (fi:= #[]) (ca:= #[]) (v:=M3) (L0:=Sj) (Lc:=VY) (L1:=dJ) rfl rfl AUt AUt AUt AUt (AQI hK) ALc ?_
 exact Fc (i:=2) (L1:=Sn) (A1 hK) ALd AUt
theorem AQK{W:World}(hK:KB W):TX W U7 Sn.act Sn.st .normal Lb:=Hu (A1 hK) ALf
theorem AQL{W:World}(hK:KB W):TX W Xz P7.act P7.st .normal Lb:=IX AUt (AQJ hK) (AQK hK)
theorem AQM{W:World}(hK:KB W):TX W Rr Si.act Si.st .normal Lb:=Gs (k:=2) (L1:=P7) (A1 hK) AUt ALY (AQL hK)
theorem AQN{W:World}(hK:KB W):TX W Xw P3.act P3.st .normal Lb:=IX AUt (AQF hK) (AQM hK)
theorem AQO{W:World}(hK:KB W):TX W MS Mh.act Mh.st .normal Lb:=Gs (k:=1) (L1:=P3) (A1 hK) AUt ALG (AQN hK)
theorem AQP{W:World}(hK:KB W):TX W Xv Mh.act Mh.st .normal Lb:=Vm AUt AUt (AQO hK)
theorem AQQ{W:World}(hK:KB W):TX W PW Lb.act Lb.st .normal P9:=Hu (A1 hK) ALg
theorem AQR{W:World}(hK:KB W):TX W U4 Mh.act Mh.st .normal P9:=IX AUt (AQP hK) (AQQ hK)
theorem AQS{W:World}(hK:KB W):TX W Jn QN.act QN.st .normal P9:=Gs (k:=2) (L1:=Mh) (A1 hK) AUt ALF (AQR hK)
theorem AQT{W:World}(hK:KB W):TX W Jn P9.act P9.st (.exit 0) OK:=Hu (A1 hK) ALh
theorem AQU{W:World}(hK:KB W):TX W mR Mi.act Mi.st (.exit 0) OK:=oX (m:=2) AUt rfl (.next (AP2 hK) (.next (AQS hK) (.last (AQT hK))))
theorem AQV{W:World}(hK:KB W):TX W mQ Mi.act Mi.st .normal OK:=oW AUt (AQU hK)
theorem AQW{W:World}(hK:KB W):TX W Xu P8.act P8.st .normal OK:=Gs (k:=1) (L1:=Mi) (A1 hK) AUt ALj (AQV hK)
theorem AQX{W:World}(hK:KB W):TF W Tryz.f56 b9 OK.act OK.st (Mt) So.st:=Er (A1 hK) ALi
theorem AQY{W:World}(hK:KB W):TF W Tryz.f56 cA P8.act P8.st (Mt) So.st:=G9 AUt (AQW hK) (AQX hK)
theorem AQZ{W:World}(hK:KB W):TF W Tryz.f56 T6 ({n:=79,t:=PT.ofList 0 (PT.nil 8) pM,defers:=[]}) SX.st (Mt) So.st:=Es (k:=4) (L1:=P8) (A1 hK) AUt ALe (AQY hK)
theorem AQa{W:World}(hK:KB W):TC W 56 pM SX.st (Mt) So.st:=Ed Tryz.func56 ql AUt (n:=79) AUt AUt (AQZ hK)
theorem AQb{W:World}(hK:KB W):TX W Xt P5.act P5.st .normal Sq:=by
 refine Fe AUt ?_
 refine FN (i:=0) (j:=1) (L1:=SX) (A1 hK) AUt ALU AUt ?_
 refine FM (i:=1) (f:=56) (fi:= #[]) (ca:= #[]) (v:=Mt) (L0:=SX) (Lc:=So) (L1:=dK) rfl rfl AUt AUt AUt AUt (AQa hK) ALk ?_
 exact Fc (i:=2) (L1:=Sq) (A1 hK) ALl AUt
theorem AQc{W:World}(hK:KB W):TF W Tryz.f55 yV Sq.act Sq.st (Mu) Sr.st:=Er (A1 hK) ALn
theorem AQd{W:World}(hK:KB W):TF W Tryz.f55 mP P5.act P5.st (Mu) Sr.st:=G9 AUt (AQb hK) (AQc hK)
theorem AQe{W:World}(hK:KB W):TF W Tryz.f55 ZX ({n:=41,t:=PT.ofList 0 (PT.nil 8) pF,defers:=[]}) Ta.st (Mu) Sr.st:=Es (k:=1) (L1:=P5) (A1 hK) AUt ALN (AQd hK)
theorem AQf{W:World}(hK:KB W):TC W 55 pF Ta.st (Mu) Sr.st:=Ed Tryz.func55 ADI AUt (n:=41) AUt AUt (AQe hK)
theorem AQg{W:World}(hK:KB W):TX W Xs QL.act QL.st .normal Ss:=by
 refine Fe AUt ?_
 refine FN (i:=0) (j:=1) (L1:=Ta) (A1 hK) AUt AMy AUt ?_
 refine FM (i:=1) (f:=55) (fi:= #[]) (ca:= #[]) (v:=Mu) (L0:=Ta) (Lc:=Sr) (L1:=dM) rfl rfl AUt AUt AUt AUt (AQf hK) ALo ?_
 exact Fc (i:=2) (L1:=Ss) (A1 hK) ALp AUt
theorem AQh{W:World}(hK:KB W):TF W Tryz.f34 yW Ss.act Ss.st (vt) Su.st:=Er (A1 hK) ALr
theorem AQi{W:World}(hK:KB W):TF W Tryz.f34 mO QL.act QL.st (vt) Su.st:=G9 AUt (AQg hK) (AQh hK)
theorem AQj{W:World}(hK:KB W):TF W Tryz.f34 ZV ({n:=38,t:=PT.ofList 0 (PT.nil 8) pY,defers:=[]}) TM.st (vt) Su.st:=Es (k:=1) (L1:=QL) (A1 hK) AUt AMq (AQi hK)
theorem AQk{W:World}(hK:KB W):TC W 34 pY TM.st (vt) Su.st:=Ed Tryz.func34 ADG AUt (n:=38) AUt AUt (AQj hK)
theorem AQl{W:World}(hK:KB W):TF W Tryz.f79 KX VZ.act VZ.st (OP) Va.st:=Er (A1 hK) AL8
theorem AQm{W:World}(hK:KB W):TF W Tryz.f79 Il ({n:=66,t:=PT.ofList 0 (PT.nil 8) pT,defers:=[]}) TB.st (OP) Va.st:=Es (k:=4) (L1:=VZ) (A1 hK) AUt AL6 (AQl hK)
theorem AQn{W:World}(hK:KB W):TC W 79 pT TB.st (OP) Va.st:=Ed Tryz.func79 Ty AUt (n:=66) AUt AUt (AQm hK)
theorem AQo{W:World}(hK:KB W):TX W IS QE.act QE.st .normal TD:=by
 refine Fe AUt ?_
 refine FN (i:=0) (j:=1) (L1:=TB) (A1 hK) AUt AL5 AUt ?_
 refine FM (i:=1) (f:=79) (fi:= #[]) (ca:= #[]) (v:=OP) (L0:=TB) (Lc:=Va) (L1:=dO) rfl rfl AUt AUt AUt AUt (AQn hK) AL9 ?_
 exact Fc (i:=2) (L1:=TD) (A1 hK) AL' AUt
theorem AQp{W:World}(hK:KB W):TF W Tryz.f97 U5 TD.act TD.st (Mw) TE.st:=Er (A1 hK) AMA
theorem AQq{W:World}(hK:KB W):TF W Tryz.f97 Xy QE.act QE.st (Mw) TE.st:=G9 AUt (AQo hK) (AQp hK)
theorem AQr{W:World}(hK:KB W):TF W Tryz.f97 Oj ({n:=42,t:=PT.ofList 0 (PT.nil 8) pS,defers:=[]}) Sz.st (Mw) TE.st:=Es (k:=1) (L1:=QE) (A1 hK) AUt AL4 (AQq hK)
theorem AQs{W:World}(hK:KB W):TC W 97 pS Sz.st (Mw) TE.st:=Ed Tryz.func97 ey AUt (n:=42) AUt AUt (AQr hK)
theorem AQt{W:World}(hK:KB W):TX W IQ QD.act QD.st .normal TG:=by
 refine Fe AUt ?_
 refine FN (i:=0) (j:=1) (L1:=Sz) (A1 hK) AUt AL3 AUt ?_
 refine FM (i:=1) (f:=97) (fi:= #[]) (ca:= #[]) (v:=Mw) (L0:=Sz) (Lc:=TE) (L1:=dP) rfl rfl AUt AUt AUt AUt (AQs hK) AMB ?_
 exact Fc (i:=2) (L1:=TG) (A1 hK) AMC AUt
theorem AQu{W:World}(hK:KB W):TF W Tryz.f78 U6 TG.act TG.st (Kf) TH.st:=Er (A1 hK) AMD
theorem AQv{W:World}(hK:KB W):TF W Tryz.f78 Xx QD.act QD.st (Kf) TH.st:=G9 AUt (AQt hK) (AQu hK)
theorem AQw{W:World}(hK:KB W):TF W Tryz.f78 Oi ({n:=45,t:=PT.ofList 0 (PT.nil 8) pR,defers:=[]}) Sy.st (Kf) TH.st:=Es (k:=1) (L1:=QD) (A1 hK) AUt AL2 (AQv hK)
theorem AQx{W:World}(hK:KB W):TC W 78 pR Sy.st (Kf) TH.st:=Ed Tryz.func78 eu AUt (n:=45) AUt AUt (AQw hK)
theorem AQy{W:World}(hK:KB W):TX W IP QC.act QC.st .normal TI:=by
 refine Fe AUt ?_
 refine FN (i:=0) (j:=1) (L1:=Sy) (A1 hK) AUt AL1 AUt ?_
 refine FM (i:=1) (f:=78) (fi:= #[]) (ca:= #[]) (v:=Kf) (L0:=Sy) (Lc:=TH) (L1:=dQ) rfl rfl AUt AUt AUt AUt (AQx hK) AME ?_
 exact Fc (i:=2) (L1:=TI) (A1 hK) AMF AUt
theorem AQz{W:World}(hK:KB W):TF W Tryz.f79 KX Vb.act Vb.st (Mx) Vc.st:=Er (A1 hK) AMK
theorem AQ0{W:World}(hK:KB W):TF W Tryz.f79 Il ({n:=66,t:=PT.ofList 0 (PT.nil 8) pV,defers:=[]}) TJ.st (Mx) Vc.st:=Es (k:=4) (L1:=Vb) (A1 hK) AUt AMJ (AQz hK)
theorem AQ1{W:World}(hK:KB W):TC W 79 pV TJ.st (Mx) Vc.st:=Ed Tryz.func79 Ty AUt (n:=66) AUt AUt (AQ0 hK)
theorem AQ2{W:World}(hK:KB W):TX W IT QG.act QG.st .normal TL:=by
 refine Fe AUt ?_
 refine FN (i:=0) (j:=1) (L1:=TJ) (A1 hK) AUt AMI AUt ?_
 refine FM (i:=1) (f:=79) (fi:= #[]) (ca:= #[]) (v:=Mx) (L0:=TJ) (Lc:=Vc) (L1:=dR) rfl rfl AUt AUt AUt AUt (AQ1 hK) AML ?_
 exact Fc (i:=2) (L1:=TL) (A1 hK) AMM AUt
theorem AQ3{W:World}(hK:KB W):TX W U7 TL.act TL.st .normal Ld:=Hu (A1 hK) AMN
theorem AQ4{W:World}(hK:KB W):TX W Xz QG.act QG.st .normal Ld:=IX AUt (AQ2 hK) (AQ3 hK)
theorem AQ5{W:World}(hK:KB W):TX W Rr TI.act TI.st .normal Ld:=Gs (k:=2) (L1:=QG) (A1 hK) AUt AMH (AQ4 hK)
theorem AQ6{W:World}(hK:KB W):TX W Xw QC.act QC.st .normal Ld:=IX AUt (AQy hK) (AQ5 hK)
theorem AQ7{W:World}(hK:KB W):TX W MS Mm.act Mm.st .normal Ld:=Gs (k:=1) (L1:=QC) (A1 hK) AUt AL0 (AQ6 hK)
theorem AQ8{W:World}(hK:KB W):TX W Xv Mm.act Mm.st .normal Ld:=Vm AUt AUt (AQ7 hK)
theorem AQ9{W:World}(hK:KB W):TX W PW Ld.act Ld.st .normal QH:=Hu (A1 hK) AMP
theorem AQ'{W:World}(hK:KB W):TX W U4 Mm.act Mm.st .normal QH:=IX AUt (AQ8 hK) (AQ9 hK)
theorem ARA{W:World}(hK:KB W):TX W Jn Ml.act Ml.st .normal QH:=Gs (k:=2) (L1:=Mm) (A1 hK) AUt ALz (AQ' hK)
theorem ARB{W:World}(hK:KB W):TX W yX Ve.act Ve.st .normal QI:=Hu (A1 hK) AMS
theorem ARC{W:World}(hK:KB W):TX W MS Mn.act Mn.st .normal QI:=Gs (k:=4) (L1:=Ve) (A1 hK) AUt AMR (ARB hK)
theorem ARD{W:World}(hK:KB W):TX W Xv Mn.act Mn.st .normal QI:=Vm AUt AUt (ARC hK)
theorem ARE{W:World}(hK:KB W):TX W PW QI.act QI.st .normal QK:=Hu (A1 hK) AMT
theorem ARF{W:World}(hK:KB W):TX W U4 Mn.act Mn.st .normal QK:=IX AUt (ARD hK) (ARE hK)
theorem ARG{W:World}(hK:KB W):TX W Jn QH.act QH.st .normal QK:=Gs (k:=2) (L1:=Mn) (A1 hK) AUt AMQ (ARF hK)
theorem ARH{W:World}(hK:KB W):TX W Jn QK.act QK.st (.exit 0) OL:=Hu (A1 hK) AMU
theorem ARI{W:World}(hK:KB W):TX W mR Ml.act Ml.st (.exit 0) OL:=oX (m:=2) AUt rfl (.next (ARA hK) (.next (ARG hK) (.last (ARH hK))))
theorem ARJ{W:World}(hK:KB W):TX W mQ Ml.act Ml.st .normal OL:=oW AUt (ARI hK)
theorem ARK{W:World}(hK:KB W):TX W Xu QB.act QB.st .normal OL:=Gs (k:=1) (L1:=Ml) (A1 hK) AUt ALx (ARJ hK)
theorem ARL{W:World}(hK:KB W):TF W Tryz.f56 b9 OL.act OL.st (My) TN.st:=Er (A1 hK) AMW
theorem ARM{W:World}(hK:KB W):TF W Tryz.f56 cA QB.act QB.st (My) TN.st:=G9 AUt (ARK hK) (ARL hK)
theorem ARN{W:World}(hK:KB W):TF W Tryz.f56 T6 ({n:=79,t:=PT.ofList 0 (PT.nil 8) pQ,defers:=[]}) Sw.st (My) TN.st:=Es (k:=4) (L1:=QB) (A1 hK) AUt ALw (ARM hK)
theorem ARO{W:World}(hK:KB W):TC W 56 pQ Sw.st (My) TN.st:=Ed Tryz.func56 ql AUt (n:=79) AUt AUt (ARN hK)
theorem ARP{W:World}(hK:KB W):TX W Xr QA.act QA.st .normal TO:=by
 refine Fe AUt ?_
 refine FN (i:=0) (j:=1) (L1:=Sw) (A1 hK) AUt ALv AUt ?_
 refine FM (i:=1) (f:=56) (fi:= #[]) (ca:= #[]) (v:=My) (L0:=Sw) (Lc:=TN) (L1:=dU) rfl rfl AUt AUt AUt AUt (ARO hK) AMX ?_
 exact Fc (i:=2) (L1:=TO) (A1 hK) AMY AUt
theorem ARQ{W:World}(hK:KB W):TF W Tryz.f54 yY TO.act TO.st (vt) TQ.st:=Er (A1 hK) AMZ
theorem ARR{W:World}(hK:KB W):TF W Tryz.f54 mL QA.act QA.st (vt) TQ.st:=G9 AUt (ARP hK) (ARQ hK)
theorem ARS{W:World}(hK:KB W):TF W Tryz.f54 ZW ({n:=56,t:=PT.ofList 0 (PT.nil 8) pP,defers:=[]}) Sv.st (vt) TQ.st:=Es (k:=1) (L1:=QA) (A1 hK) AUt ALu (ARR hK)
theorem ART{W:World}(hK:KB W):TC W 54 pP Sv.st (vt) TQ.st:=Ed Tryz.func54 ADH AUt (n:=56) AUt AUt (ARS hK)
theorem ARU{W:World}(hK:KB W):TX W Rp Mg.act Mg.st .normal TR:=by
 refine Fe AUt ?_
 refine FN (i:=0) (j:=9) (L1:=TM) (A1 hK) AUt AMg AUt ?_
 refine FM (i:=9) (f:=34) (fi:= #[]) (ca:= #[]) (v:=vt) (L0:=TM) (Lc:=Su) (L1:=dN) rfl rfl AUt AUt AUt AUt (AQk hK) ALs ?_
 refine FN (i:=10) (j:=13) (L1:=Sv) (A1 hK) AUt ALt AUt ?_
 refine FM (i:=13) (f:=54) (fi:= #[]) (ca:= #[]) (v:=vt) (L0:=Sv) (Lc:=TQ) (L1:=dV) rfl rfl AUt AUt AUt AUt (ART hK) AMa ?_
 exact Fc (i:=14) (L1:=TR) (A1 hK) AMc AUt
theorem ARV{W:World}(hK:KB W):TX W yZ TR.act TR.st .normal TS:=Hu (A1 hK) AMd
theorem ARW{W:World}(hK:KB W):TX W mN Mg.act Mg.st .normal TS:=IX AUt (ARU hK) (ARV hK)
theorem ARX{W:World}(hK:KB W):TF W Tryz.f17 yb TS.act TS.st (vt) YZ.st:=Er (A1 hK) AMe
theorem ARY{W:World}(hK:KB W):TF W Tryz.f17 mM Mg.act Mg.st (vt) YZ.st:=G9 AUt (ARW hK) (ARX hK)
theorem ARZ{W:World}(hK:KB W):TF W Tryz.f17 ZU ({n:=238,t:=PT.ofList 0 (PT.nil 8) pE,defers:=[]}) Vj (vt) YZ.st:=Es (k:=3) (L1:=Mg) (A1 hK) AUt ALm (ARY hK)
theorem ARa{W:World}(hK:KB W):TC W 17 pE Vj (vt) YZ.st:=Ed Tryz.func17 er AUt (n:=238) AUt AUt (ARZ hK)
noncomputable def l4:List Value:=(dc Tryz.prog 9 107 Rows.laid_tactus_sign_uses).getD []
noncomputable def l5:List Value:=(dc Tryz.prog 9 281 Rows.laid_tactus_sign_classes).getD []
noncomputable def bq:List Value:=(dc Tryz.prog 9 103 Rows.laid_tactus_item_half).getD []
theorem xE:listed= [(0,l4),(1,l5),(2,bq)]:=by kernel_rfl
theorem xD:∀g l,(g,l)∈listed→(g=0∧l=l4)∨(g=1∧l=l5)∨(g=2∧l=bq):=by
 rw[xE]
 intro g l h
 simpa only[List.mem_cons,Prod.mk.injEq,List.not_mem_nil,or_false]using h
def qC(laid:List (String×DataW Unit)):Prop:=("tactus/sign.uses",Rows.laid_tactus_sign_uses)∈laid∧("tactus/sign.classes",Rows.laid_tactus_sign_classes)∈laid∧("tactus/item.half",Rows.laid_tactus_item_half)∈laid
def J0(W:World):Prop:= ∀g l,(g,l)∈listed→∃(arr:Array Value) (e:TypeId) (fz:Nat×Nat),W.heap[g]?=some (.cells arr e fz)∧arr.toList=l
theorem AIK{laid:List (String×DataW Unit)}(hm:qC laid){W:World}(h:laidMet Tryz.prog laid W):J0 W:=by
 obtain⟨ps,hv,_⟩:=h
 obtain⟨m0,m1,m2⟩:=hm
 intro g l Ja
 rcases xD g l Ja with ⟨rfl,rfl⟩|⟨rfl,rfl⟩|⟨rfl,rfl⟩
 ·exact bX laid ps hv _ _ m0 0 107 9 _ AUt AUt AUt
 ·exact bX laid ps hv _ _ m1 1 281 9 _ AUt AUt AUt
 exact bX laid ps hv _ _ m2 2 103 9 _ AUt AUt AUt
theorem bY:∀g l,(g,l)∈listed→∀v∈l,Dx L8 v=true:=by
 have:listed.all (fun x=>x.2.all (Dx L8))=true:=by kernel_rfl
 intro g l Ja v hv
 exact List.all_eq_true.1 (List.all_eq_true.1 this (g,l) Ja) v hv
theorem size_le{W:World}(h:J0 W):Tryz.prog.globals.size≤W.heap.size:=by
 have h5:(2,bq)∈listed:=by
  rw[xE];simp
 obtain⟨arr,e,fz,h1,_⟩:=h 2 _ h5
 have h2:=(Array.getElem?_eq_some_iff.1 h1).1
 have h3:Tryz.prog.globals.size=3:=by kernel_rfl
 omega
theorem Xa{W W1:World}(hk:Kept W W1)(h:J0 W):J0 W1:=by
 intro g l Ja
 obtain⟨arr,e,fz,h1,h2⟩:=h g l Ja
 exact⟨arr,e,fz,by rw[hk.old g (Array.getElem?_eq_some_iff.1 h1).1];exact h1,h2⟩
theorem AHu{W:World}(_:J0 W):Jz Tryz.prog (kk xy) W:=⟨Zo _,fun _ _ _ _ h=>by cases h⟩
theorem AR6:Vl.all (fun e=>zN e.2.2 ((NY Tryz.prog (kk xy) 100000).call (.fn (.func e.1) #[]) e.2.1 (Kb listed Tryz.prog.globals.size)))=true:=by kernel_rfl
theorem AR5:Vl.all (fun e=>e.2.1.all (Dx 40)&&Dx 40 e.2.2)=true:=by kernel_rfl
noncomputable def fB(f:Nat):Bool:=match Tryz.prog.funcs[f]? with
 |some fn=>fn.body.isSome&&!(fn.name== "runtime.NumGoroutine")
 |none=>false
theorem AR4:Vl.all (fun e=>fB e.1)=true:=by kernel_rfl
theorem AD'{f:Nat}(h:fB f=true):∃fn c,Tryz.prog.funcs[f]?=some fn∧fn.body=some c∧(fn.name== "runtime.NumGoroutine")=false:=by
 unfold fB at h
 split at h
 ·rename_i fn hf
  rw[Bool.and_eq_true]at h
  obtain⟨c,hc⟩:=Option.isSome_iff_exists.1 h.1
  exact⟨fn,c,hf,hc,by simpa using h.2⟩
 cases h
theorem xF:∀{l:List (Nat×List Value×Value)} {f:Nat} {a:List Value} {v:Value},Uq l f a=some v→(f,a,v)∈l
 | [],_,_,_,h=>by cases h
 |(g,eh,u)::r,f,a,v,h=>by
  unfold Uq at h
  cases hc:(Nat.beq g f&&Gp 1000 eh a)with
  |true =>
   rw[hc]at h
   cases h
   rw[Bool.and_eq_true]at hc
   rw[←Bc hc.1,←R6 _ _ _ hc.2]
   exact List.mem_cons_self ..
  |false =>
   rw[hc]at h
   exact List.mem_cons_of_mem _ (xF h)
theorem wu{W:World}(h:J0 W){f:Nat}{args:List Value}{S:St}{v:Value}(hv:Uq Vl f args=some v):(∀ρ:AI,VR ρ v v)∧∃fn c,Tryz.prog.funcs[f]?=some fn∧fn.body=some c∧(fn.name== "runtime.NumGoroutine")=false ∧
  ∀(w0:Bi) (ρ:AI) (w:World) (args':Array Value),w0.toWorld=W→AW Tryz.prog w0 ρ S w→AS ρ args args'.toList→Calls Tryz.prog f args' w fun e w'=>e= .returned v∧Kept w w':=by
 have hm:=xF hv
 have h1:=List.all_eq_true.1 AR6 _ hm
 have h2:=List.all_eq_true.1 AR5 _ hm
 rw[Bool.and_eq_true]at h2
 obtain⟨fn,c,hf,hb,Ch⟩:=AD' (List.all_eq_true.1 AR4 _ hm)
 exact⟨fun ρ=>(NX 40 _ h2.2).refl ρ,fn,c,hf,hb,Ch,AFh h2.1 fun w hk=>AFi follows (AHu (Xa hk h)) hf hb Ch h2.1 h2.2 h1 (size_le (Xa hk h)) (Xa hk h) bY⟩
theorem AHv{W:World}(h:J0 W):Jz Tryz.prog (kk fI) W:=by
 refine⟨Zo _,fun f args S v hv=>?_⟩
 exact wu h hv
theorem ASE{W:World}(h:J0 W):Calls Tryz.prog 7 #[] W fun e w=>e= .returned (.bool true)∧Kept W w :=
 ry Tryz.func7 ep AUt (APb (AHv h)) (size_le h) h bY
theorem AHw{W:World}(h:J0 W):Jz Tryz.prog (kk ZL) W:=by
 refine⟨Zo _,fun f args S v hv=>?_⟩
 simp only[kk,ZL]at hv
 split at hv
 ·cases iO:Nat.beq f 7 with
  |true =>
   rw[iO]at hv
   cases hv
   obtain rfl:=Bc iO
   exact⟨fun ρ=> .bool _,Tryz.f7,_,Tryz.func7,ep,by kernel_rfl,ABT fun w hk=>ASE (Xa hk h)⟩
  |false =>
   rw[iO]at hv
   simp only[cond_false]at hv
   cases hv
 exact wu h hv
theorem ASF{W:World}(h:J0 W):Calls Tryz.prog 17 #[] W fun e w=>e= .returned (.bool true)∧Kept W w :=
 ry Tryz.func17 er AUt (ARa (AHw h)) (size_le h) h bY
end Go.Proofs.YtmfphenhpkgidaaGreatDoor

/-
  The chapter's examples, stages.
-/
import Derived.Test.YtmfphenhpkgidaaGreatDoorSk1
namespace Go.Proofs.YtmfphenhpkgidaaGreatDoor
open Go.Cm
set_option maxRecDepth 100000
theorem AMR:Aj Ve (CO iB.exec (By 4 MS) Mn.act Mn.st)=true:=by kernel_rfl
theorem AK0:EJ Tryz.prog Tryz.f97.results.toList (Mr) SK (iA.exec none yQ SJ.act SJ.st)=true:=by kernel_rfl
theorem AMZ:EJ Tryz.prog Tryz.f54.results.toList (vt) TQ (iB.exec none yY TO.act TO.st)=true:=by kernel_rfl
theorem AKw:Aj SH (BT Tryz.prog iA (Ay Xk).toList (EI Xk 0 30) Pq.act Pq.st)=true:=by kernel_rfl
theorem AMn:EJ Tryz.prog Tryz.f78.results.toList (IY) TW (iB.exec none U6 TV.act TV.st)=true:=by kernel_rfl
theorem AK3:EJ Tryz.prog Tryz.f78.results.toList (Ke) SM (iA.exec none yR SL.act SL.st)=true:=by kernel_rfl
theorem ALV:EJ Tryz.prog Tryz.f78.results.toList (M1) Sh (iB.exec none U6 SZ.act SZ.st)=true:=by kernel_rfl
theorem AMD:EJ Tryz.prog Tryz.f78.results.toList (Kf) TH (iB.exec none U6 TG.act TG.st)=true:=by kernel_rfl
theorem ALr:EJ Tryz.prog Tryz.f34.results.toList (vt) Su (iB.exec none yW Ss.act Ss.st)=true:=by kernel_rfl
theorem AMr:Aj QM (CO iB.exec (By 2 Rr) TY.act TY.st)=true:=by kernel_rfl
theorem ALY:Aj P7 (CO iB.exec (By 2 Rr) Si.act Si.st)=true:=by kernel_rfl
theorem AMH:Aj QG (CO iB.exec (By 2 Rr) TI.act TI.st)=true:=by kernel_rfl
theorem AMg:Aj TM (BT Tryz.prog iB (Ay Rp).toList (EI Rp 0 9) Mg.act Mg.st)=true:=by kernel_rfl
theorem AK2:Aj SL (BT Tryz.prog iA (Ay Xo).toList ((Ay Xo).toList.drop 2) dC.act dC.st)=true:=by kernel_rfl
theorem AMm:Aj TV (BT Tryz.prog iB (Ay IQ).toList ((Ay IQ).toList.drop 2) dX.act dX.st)=true:=by kernel_rfl
theorem ALT:Aj SZ (BT Tryz.prog iB (Ay IQ).toList ((Ay IQ).toList.drop 2) dH.act dH.st)=true:=by kernel_rfl
theorem AMC:Aj TG (BT Tryz.prog iB (Ay IQ).toList ((Ay IQ).toList.drop 2) dP.act dP.st)=true:=by kernel_rfl
theorem AKp:Aj Px (CO iA.exec (By 1 U3) Mf.act Mf.st)=true:=by kernel_rfl
theorem ALy:Aj P' (CO iB.exec (By 1 MS) Mj.act Mj.st)=true:=by kernel_rfl
theorem ALG:Aj P3 (CO iB.exec (By 1 MS) Mh.act Mh.st)=true:=by kernel_rfl
theorem AL0:Aj QC (CO iB.exec (By 1 MS) Mm.act Mm.st)=true:=by kernel_rfl
theorem AKz:Aj SJ (BT Tryz.prog iA (Ay Xp).toList ((Ay Xp).toList.drop 2) dB.act dB.st)=true:=by kernel_rfl
theorem AK5:Aj SN (BT Tryz.prog iA (Ay Xn).toList ((Ay Xn).toList.drop 2) dD.act dD.st)=true:=by kernel_rfl
theorem ALB:Aj SQ (BT Tryz.prog iA (Ay Xq).toList ((Ay Xq).toList.drop 2) dE.act dE.st)=true:=by kernel_rfl
theorem AKc:Aj R' (BT Tryz.prog iA (Ay Xm).toList ((Ay Xm).toList.drop 2) c7.act c7.st)=true:=by kernel_rfl
theorem AKg:Aj SC (BT Tryz.prog iA (Ay Xl).toList ((Ay Xl).toList.drop 2) c8.act c8.st)=true:=by kernel_rfl
theorem AMj:Aj TT (BT Tryz.prog iB (Ay IS).toList ((Ay IS).toList.drop 2) dW.act dW.st)=true:=by kernel_rfl
theorem AMp:Aj TY (BT Tryz.prog iB (Ay IP).toList ((Ay IP).toList.drop 2) dY.act dY.st)=true:=by kernel_rfl
theorem AMw:Aj Tb (BT Tryz.prog iB (Ay IT).toList ((Ay IT).toList.drop 2) dZ.act dZ.st)=true:=by kernel_rfl
theorem ALQ:Aj SV (BT Tryz.prog iB (Ay IS).toList ((Ay IS).toList.drop 2) dG.act dG.st)=true:=by kernel_rfl
theorem ALX:Aj Si (BT Tryz.prog iB (Ay IP).toList ((Ay IP).toList.drop 2) dI.act dI.st)=true:=by kernel_rfl
theorem ALd:Aj Sn (BT Tryz.prog iB (Ay IT).toList ((Ay IT).toList.drop 2) dJ.act dJ.st)=true:=by kernel_rfl
theorem ALl:Aj Sq (BT Tryz.prog iB (Ay Xt).toList ((Ay Xt).toList.drop 2) dK.act dK.st)=true:=by kernel_rfl
theorem ALp:Aj Ss (BT Tryz.prog iB (Ay Xs).toList ((Ay Xs).toList.drop 2) dM.act dM.st)=true:=by kernel_rfl
theorem AL':Aj TD (BT Tryz.prog iB (Ay IS).toList ((Ay IS).toList.drop 2) dO.act dO.st)=true:=by kernel_rfl
theorem AMF:Aj TI (BT Tryz.prog iB (Ay IP).toList ((Ay IP).toList.drop 2) dQ.act dQ.st)=true:=by kernel_rfl
theorem AMM:Aj TL (BT Tryz.prog iB (Ay IT).toList ((Ay IT).toList.drop 2) dR.act dR.st)=true:=by kernel_rfl
theorem AMY:Aj TO (BT Tryz.prog iB (Ay Xr).toList ((Ay Xr).toList.drop 2) dU.act dU.st)=true:=by kernel_rfl
theorem AKt:Aj Pz (CO iA.exec (By 1 ZT) ({n:=42,t:=PT.ofList 0 (PT.nil 8) o7,defers:=[]}) SG.st)=true:=by kernel_rfl
theorem AKa:EJ Tryz.prog Tryz.f56.results.toList (Mp) R9 (iA.exec none yU OJ.act OJ.st)=true:=by kernel_rfl
theorem AMV:Aj QJ (CO iB.exec (By 1 Oj) ({n:=42,t:=PT.ofList 0 (PT.nil 8) pW,defers:=[]}) TK.st)=true:=by kernel_rfl
theorem ALK:Aj P6 (CO iB.exec (By 1 Oj) ({n:=42,t:=PT.ofList 0 (PT.nil 8) pH,defers:=[]}) SS.st)=true:=by kernel_rfl
theorem ALi:EJ Tryz.prog Tryz.f56.results.toList (Mt) So (iB.exec none b9 OK.act OK.st)=true:=by kernel_rfl
theorem AL4:Aj QE (CO iB.exec (By 1 Oj) ({n:=42,t:=PT.ofList 0 (PT.nil 8) pS,defers:=[]}) Sz.st)=true:=by kernel_rfl
theorem AMW:EJ Tryz.prog Tryz.f56.results.toList (My) TN (iB.exec none b9 OL.act OL.st)=true:=by kernel_rfl
theorem AKZ:Aj Pu (CO iA.exec (By 1 ZP) ({n:=41,t:=PT.ofList 0 (PT.nil 8) oz,defers:=[]}) SP.st)=true:=by kernel_rfl
theorem AKm:Aj Me (CO iA.exec (By 1 mE) Pw.act Pw.st)=true:=by kernel_rfl
theorem AKr:Aj Py (CO iA.exec (By 1 ZS) ({n:=45,t:=PT.ofList 0 (PT.nil 8) o6,defers:=[]}) SF.st)=true:=by kernel_rfl
theorem ALN:Aj P5 (CO iB.exec (By 1 ZX) ({n:=41,t:=PT.ofList 0 (PT.nil 8) pF,defers:=[]}) Ta.st)=true:=by kernel_rfl
theorem ALj:Aj Mi (CO iB.exec (By 1 Xu) P8.act P8.st)=true:=by kernel_rfl
theorem AMG:Aj QF (CO iB.exec (By 1 Oi) ({n:=45,t:=PT.ofList 0 (PT.nil 8) pU,defers:=[]}) TA.st)=true:=by kernel_rfl
theorem ALI:Aj P4 (CO iB.exec (By 1 Oi) ({n:=45,t:=PT.ofList 0 (PT.nil 8) pG,defers:=[]}) SR.st)=true:=by kernel_rfl
theorem ALt:Aj Sv (BT Tryz.prog iB (Ay Rp).toList (EI Rp 10 13) dN.act dN.st)=true:=by kernel_rfl
theorem ALx:Aj Ml (CO iB.exec (By 1 Xu) QB.act QB.st)=true:=by kernel_rfl
theorem AL2:Aj QD (CO iB.exec (By 1 Oi) ({n:=45,t:=PT.ofList 0 (PT.nil 8) pR,defers:=[]}) Sy.st)=true:=by kernel_rfl
theorem AK6:Aj P0 (CO iA.exec (By 1 ZO) ({n:=38,t:=PT.ofList 0 (PT.nil 8) o9,defers:=[]}) SH.st)=true:=by kernel_rfl
theorem AKo:Aj Mf (CO iA.exec (By 2 Ro) Me.act Me.st)=true:=by kernel_rfl
theorem ALE:GM .normal P2 (iA.exec none b8 La.act La.st)=true:=by kernel_rfl
theorem AKU:Aj Md (CO iA.exec (By 2 Ro) P2.act P2.st)=true:=by kernel_rfl
theorem AKX:GM .normal Pv (iA.exec none b8 Ps.act Ps.st)=true:=by kernel_rfl
theorem AKY:GM (.exit 0) OJ (iA.exec none Ro Pv.act Pv.st)=true:=by kernel_rfl
theorem AKj:Aj SE (BT Tryz.prog iA (Ay Xk).toList ((Ay Xk).toList.drop 31) dA.act dA.st)=true:=by kernel_rfl
theorem AMq:Aj QL (CO iB.exec (By 1 ZV) ({n:=38,t:=PT.ofList 0 (PT.nil 8) pY,defers:=[]}) TM.st)=true:=by kernel_rfl
theorem ALq:Aj Mj (CO iB.exec (By 2 Jn) Mi.act Mi.st)=true:=by kernel_rfl
theorem AMz:GM .normal QN (iB.exec none PW Lf.act Lf.st)=true:=by kernel_rfl
theorem ALF:Aj Mh (CO iB.exec (By 2 Jn) QN.act QN.st)=true:=by kernel_rfl
theorem ALg:GM .normal P9 (iB.exec none PW Lb.act Lb.st)=true:=by kernel_rfl
theorem ALh:GM (.exit 0) OK (iB.exec none Jn P9.act P9.st)=true:=by kernel_rfl
theorem ALz:Aj Mm (CO iB.exec (By 2 Jn) Ml.act Ml.st)=true:=by kernel_rfl
theorem AMP:GM .normal QH (iB.exec none PW Ld.act Ld.st)=true:=by kernel_rfl
theorem AMQ:Aj Mn (CO iB.exec (By 2 Jn) QH.act QH.st)=true:=by kernel_rfl
theorem AMT:GM .normal QK (iB.exec none PW QI.act QI.st)=true:=by kernel_rfl
theorem AMU:GM (.exit 0) OL (iB.exec none Jn QK.act QK.st)=true:=by kernel_rfl
theorem AMc:Aj TR (BT Tryz.prog iB (Ay Rp).toList ((Ay Rp).toList.drop 14) dV.act dV.st)=true:=by kernel_rfl
theorem ALD:Aj SP (BT Tryz.prog iA (Ay Xl).toList (EI Xl 0 1) P0.act P0.st)=true:=by kernel_rfl
theorem AKf:Aj SA (BT Tryz.prog iA (Ay Xm).toList (EI Xm 0 1) Pu.act Pu.st)=true:=by kernel_rfl
theorem AKq:Aj SF (BT Tryz.prog iA (Ay Xn).toList (EI Xn 0 1) Px.act Px.st)=true:=by kernel_rfl
theorem AKs:Aj SG (BT Tryz.prog iA (Ay Xo).toList (EI Xo 0 1) Py.act Py.st)=true:=by kernel_rfl
theorem AKu:Aj SI (BT Tryz.prog iA (Ay Xp).toList (EI Xp 0 1) Pz.act Pz.st)=true:=by kernel_rfl
theorem AKy:Aj dB (match SI.act.put (some 14) (OO)with|some a=>some (.normal,a,VQ.st)|none=>none)=true:=by kernel_rfl
theorem AK1:Aj dC (match SG.act.put (some 13) (Mr)with|some a=>some (.normal,a,SK.st)|none=>none)=true:=by kernel_rfl
theorem AK4:Aj dD (match SF.act.put (some 34) (Ke)with|some a=>some (.normal,a,SM.st)|none=>none)=true:=by kernel_rfl
theorem AK8:Aj SO (BT Tryz.prog iA (Ay Xq).toList (EI Xq 0 1) P1.act P1.st)=true:=by kernel_rfl
theorem ALA:Aj dE (match SO.act.put (some 48) (Ms)with|some a=>some (.normal,a,VU.st)|none=>none)=true:=by kernel_rfl
theorem AKb:Aj c7 (match SA.act.put (some 12) (Mp)with|some a=>some (.normal,a,R9.st)|none=>none)=true:=by kernel_rfl
theorem AKe:Aj c8 (match SP.act.put (some 10) (Mq)with|some a=>some (.normal,a,SB.st)|none=>none)=true:=by kernel_rfl
theorem AKi:Aj dA (match SH.act.put (some 50) (vt)with|some a=>some (.normal,a,SD.st)|none=>none)=true:=by kernel_rfl
theorem AKk:EJ Tryz.prog Tryz.f7.results.toList (vt) YY (iA.exec none yN SE.act SE.st)=true:=by kernel_rfl
theorem AMy:Aj Ta (BT Tryz.prog iB (Ay Xs).toList (EI Xs 0 1) QL.act QL.st)=true:=by kernel_rfl
theorem ALU:Aj SX (BT Tryz.prog iB (Ay Xt).toList (EI Xt 0 1) P5.act P5.st)=true:=by kernel_rfl
theorem AL7:Aj TA (BT Tryz.prog iB (Ay IP).toList (EI IP 0 1) P'.act P'.st)=true:=by kernel_rfl
theorem AMO:Aj TK (BT Tryz.prog iB (Ay IQ).toList (EI IQ 0 1) QF.act QF.st)=true:=by kernel_rfl
theorem AMb:Aj TP (BT Tryz.prog iB (Ay IS).toList (EI IS 0 1) QJ.act QJ.st)=true:=by kernel_rfl
theorem AMi:Aj dW (match TP.act.put (some 14) (OQ)with|some a=>some (.normal,a,Vg.st)|none=>none)=true:=by kernel_rfl
theorem AMl:Aj dX (match TK.act.put (some 13) (Mz)with|some a=>some (.normal,a,TU.st)|none=>none)=true:=by kernel_rfl
theorem AMo:Aj dY (match TA.act.put (some 34) (IY)with|some a=>some (.normal,a,TW.st)|none=>none)=true:=by kernel_rfl
theorem AMs:Aj TZ (BT Tryz.prog iB (Ay IT).toList (EI IT 0 1) QM.act QM.st)=true:=by kernel_rfl
theorem AMv:Aj dZ (match TZ.act.put (some 48) (Ll)with|some a=>some (.normal,a,Vi.st)|none=>none)=true:=by kernel_rfl
theorem ALH:Aj SR (BT Tryz.prog iB (Ay IP).toList (EI IP 0 1) P3.act P3.st)=true:=by kernel_rfl
theorem ALJ:Aj SS (BT Tryz.prog iB (Ay IQ).toList (EI IQ 0 1) P4.act P4.st)=true:=by kernel_rfl
theorem ALL:Aj SU (BT Tryz.prog iB (Ay IS).toList (EI IS 0 1) P6.act P6.st)=true:=by kernel_rfl
theorem ALP:Aj dG (match SU.act.put (some 14) (OR)with|some a=>some (.normal,a,VW.st)|none=>none)=true:=by kernel_rfl
theorem ALS:Aj dH (match SS.act.put (some 13) (M0)with|some a=>some (.normal,a,SY.st)|none=>none)=true:=by kernel_rfl
theorem ALW:Aj dI (match SR.act.put (some 34) (M1)with|some a=>some (.normal,a,Sh.st)|none=>none)=true:=by kernel_rfl
theorem ALZ:Aj Sj (BT Tryz.prog iB (Ay IT).toList (EI IT 0 1) P7.act P7.st)=true:=by kernel_rfl
theorem ALc:Aj dJ (match Sj.act.put (some 48) (M3)with|some a=>some (.normal,a,VY.st)|none=>none)=true:=by kernel_rfl
theorem ALk:Aj dK (match SX.act.put (some 12) (Mt)with|some a=>some (.normal,a,So.st)|none=>none)=true:=by kernel_rfl
theorem ALo:Aj dM (match Ta.act.put (some 10) (Mu)with|some a=>some (.normal,a,Sr.st)|none=>none)=true:=by kernel_rfl
theorem ALs:Aj dN (match TM.act.put (some 46) (vt)with|some a=>some (.normal,a,Su.st)|none=>none)=true:=by kernel_rfl
theorem ALu:Aj QA (CO iB.exec (By 1 ZW) ({n:=56,t:=PT.ofList 0 (PT.nil 8) pP,defers:=[]}) Sv.st)=true:=by kernel_rfl
theorem AL1:Aj Sy (BT Tryz.prog iB (Ay IP).toList (EI IP 0 1) QC.act QC.st)=true:=by kernel_rfl
theorem AL3:Aj Sz (BT Tryz.prog iB (Ay IQ).toList (EI IQ 0 1) QD.act QD.st)=true:=by kernel_rfl
theorem AL5:Aj TB (BT Tryz.prog iB (Ay IS).toList (EI IS 0 1) QE.act QE.st)=true:=by kernel_rfl
theorem AL9:Aj dO (match TB.act.put (some 14) (OP)with|some a=>some (.normal,a,Va.st)|none=>none)=true:=by kernel_rfl
theorem AMB:Aj dP (match Sz.act.put (some 13) (Mw)with|some a=>some (.normal,a,TE.st)|none=>none)=true:=by kernel_rfl
theorem AME:Aj dQ (match Sy.act.put (some 34) (Kf)with|some a=>some (.normal,a,TH.st)|none=>none)=true:=by kernel_rfl
theorem AMI:Aj TJ (BT Tryz.prog iB (Ay IT).toList (EI IT 0 1) QG.act QG.st)=true:=by kernel_rfl
theorem AML:Aj dR (match TJ.act.put (some 48) (Mx)with|some a=>some (.normal,a,Vc.st)|none=>none)=true:=by kernel_rfl
theorem AMX:Aj dU (match Sw.act.put (some 7) (My)with|some a=>some (.normal,a,TN.st)|none=>none)=true:=by kernel_rfl
theorem AMa:Aj dV (match Sv.act.put (some 50) (vt)with|some a=>some (.normal,a,TQ.st)|none=>none)=true:=by kernel_rfl
theorem AMd:GM .normal TS (iB.exec none yZ TR.act TR.st)=true:=by kernel_rfl
end Go.Proofs.YtmfphenhpkgidaaGreatDoor

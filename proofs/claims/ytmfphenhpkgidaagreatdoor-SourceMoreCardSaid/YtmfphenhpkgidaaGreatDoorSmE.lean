/-
  The reference: marks of dots.
-/
import Derived.Test.YtmfphenhpkgidaaGreatDoorSmD
import Derived.Test.YtmfphenhpkgidaaGreatDoorSmC
namespace Go.Proofs.YtmfphenhpkgidaaGreatDoor
open Go.Cm Go
set_option maxRecDepth 100000
variable{S:St}
def bc(x:Bool):List Value:=[.bool x]
abbrev ABa:=A0 4 1 bc
abbrev Y0(v:Value)(C:List Bool)(fr:List (Nat×AF)):Prop:=OW v 4 1 ((C.map bc).flatten) C.length fr
theorem WL{P:Program}{n:Nat}{K:BX}{ro:Option Nat}{L:Env}{S:St}{R:Value→St→Prop}{x y z:Tmp}{u v w:Value}{c:Code}(h:Go.Cm.look L x=some u)(k:Go.Cm.look L y=some v)(l:Go.Cm.look L z=some w)(q:R (Aw [u,v,w]) S):Lq P K n ro c (M9 P [.tmp x,.tmp y,.tmp z] R) .ret L S :=
 Ai (BA (BD h (BD k (BD l rfl))) q)
def ABl(S':St)(p q r t:Int)(C:List Sg)(v:Value):Prop:=(∃e:Int,e≠0∧v=Aw [.slice none 0 0,.slice none 0 0,.int .i64 e])∨(M8 p q r t C∧∃a1 K a2 W,v=Aw [.slice a1 K.length K.length,.slice a2 W.length W.length,.int .i64 0]∧CZ S' (.slice a1 K.length K.length) K∧ABa S' (.slice a2 W.length W.length) W∧K.length=GP C C.length∧W.length=GP C C.length)
theorem lz{a:Option Addr}{C:List Int}{x:Int}{fr:List (Nat×AF)}(h:OW (.slice a (C.length+1) (C.length+1)) 3 1 ((C.map ic).flatten++ic x) (C.length+1) fr):Ic (.slice a (C++[x]).length (C++[x]).length) (C++[x]) fr:=OW.push h
theorem AEA{a:Option Addr}{C:List Bool}{x:Bool}{fr:List (Nat×AF)}(h:OW (.slice a (C.length+1) (C.length+1)) 4 1 ((C.map bc).flatten++bc x) (C.length+1) fr):Y0 (.slice a (C++[x]).length (C++[x]).length) (C++[x]) fr:=OW.push h
set_option maxHeartbeats 4000000 in
theorem ANu(p q r t:Int)(a:Option Addr)(cap:Nat)(C:List Sg)(ap:Option Addr)(cp:Nat)(P:List Int)(hn:C.length≤1000)(hp:P.length≤1000)(hF:BW S)(hv:CW S (.slice a C.length cap) C)(hP:CZ S (.slice ap P.length cp) P):CC Tryz.prog KK 181 [EY p q r t,.slice a C.length cap,.slice ap P.length cp] S (fun v S'=>AL S S'∧(ABl S' p q r t C v)):=by
 refine ce 87 Tryz.func181 fun hl=>?_;refine zg ?_;refine bL hl fun B3 S3 hl=>?_;refine zg ?_
 refine zc hl rfl (oA p q r t a cap C hn (hl.AD.3 hF) (hv.move (hl.since 0 rfl))) ?_;rintro v S1 AM hR hl
 rcases hR with ⟨_,e,he,rfl⟩|⟨BI,ag,G,rfl,hG,Qx,JV⟩
 ·
  refine zg ?_
  constructor<;>intro DG
  ·
   refine zg ?_
   exact WL rfl rfl rfl ⟨hl.AD,.inl ⟨e,he,rfl⟩⟩
  exact absurd (by simpa using DG) he
 have Wm:G.length=(FX p q r t C C.length).length:=by rw[←JV,D1]
 have tw:=Ut (p:=p) (q:=q) (r:=r) (t:=t) (C:=C) C.length
 refine zg ?_
 constructor<;>intro DA
 ·
  refine zg ?_
  exact WL rfl rfl rfl ⟨hl.AD,.inl ⟨_,by decide,rfl⟩⟩
 have uF:P.length=G.length:=by
  have h:(P.length:Int)=G.length:=by simpa using DA
  omega
 have hl:=hl.mark
 refine zg ?_;refine AK (L':=[(11,.int .i64 0),(9,.slice ag G.length G.length),(8,.int .i64 0),(7,.slice none 0 0),(6,.slice none 0 0),(1,.slice a C.length cap),(2,.slice ap P.length cp)]) sE ?_
 refine A2 rfl (fun m Le S'=>∃i:Nat,i≤G.length∧m=G.length-i∧Af [(11,.int .i64 (i:Int)),(9,.slice ag G.length G.length),(8,.int .i64 0),(7,.slice none 0 0),(6,.slice none 0 0),(1,.slice a C.length cap),(2,.slice ap P.length cp)] Le∧AE S [S1,S] S' [(B3,.cells [.int .i64 p,.int .i64 q,.int .i64 r,.int .i64 t] 51 false true [])] []) ?_ (m:=G.length) ⟨0,AA,AA,sE,hl⟩
 clear hl;rintro m Le S' ⟨i,hi,rfl,AH,hl⟩;refine AK AH ?_
 refine zg ?_
 constructor<;>intro EU
 ·
  have AN:i<G.length:=dT EU
  obtain⟨w,hw⟩:=Ad AN
  obtain⟨c,hc⟩:=Ad (show i<P.length by omega)
  have jb:w.C.length≤1000:=by
   have:=lV (p:=p) (q:=q) (r:=r) (t:=t) (C:=C) C.length w.C.length (by rw[←JV];exact List.mem_map.2 ⟨w,BV hw,rfl⟩)
   omega
  have XL:=Qx w (BV hw)
  obtain⟨b1,o1,BF,Fi,_,XF,AHT⟩:=(hG.move (hl.since 0 rfl)).elem hw
  obtain⟨b2,o2,EH,FD,_,GK,F0⟩:=(hP.move (hl.since 1 rfl)).elem hc
  refine zg ?_;refine BC (idx:=[0,1,2,3,4,5,6,7,8,9]) rfl AB AB ?_;refine zg ?_
  refine zp hl rfl (AN6 w.a w.c w.C c jb (hl.AD.3 hF) (XL.move (hl.since 0 rfl))) ?_;rintro v S1 AM ⟨Q,rfl⟩ hl;refine⟨zt,?_⟩
  refine pr rfl (BY rfl rfl rfl) ?_;refine zg ?_
  constructor<;>intro DB
  ·
   refine zg ?_
   exact AR (Ai (Bg (AR (WL rfl rfl rfl ⟨hl.AD,.inl ⟨_,by decide,rfl⟩⟩))))
  refine zg ?_
  exact⟨G.length-(i+1),AA,i+1,AA,rfl,sE,hl⟩
 clear hi AH
 have hl:AE S [S] S' ([(B3,.cells [.int .i64 p,.int .i64 q,.int .i64 r,.int .i64 t] 51 false true [])]++([]++([]++[]))) []:=hl.marks (Us:=[S]) (fun T hT=>BQ hT)
 refine zg ?_;refine AK (L':=[(15,.int .i64 0),(14,.int .i64 0),(13,.slice none 0 0),(12,.slice none 0 0),(8,.int .i64 0),(7,.slice none 0 0),(6,.slice none 0 0),(1,.slice a C.length cap),(2,.slice ap P.length cp)]) sE ?_
 refine A2 rfl (fun m Le S'=>∃(i j:Nat) (a1:Option Addr) (K:List Int) (f1:List (Nat×AF)) (a2:Option Addr) (W:List Bool) (f2:List (Nat×AF)),i≤C.length∧m=C.length-i∧j=(FX p q r t C i).length∧K.length=GP C i∧W.length=GP C i∧Ic (.slice a1 K.length K.length) K f1∧Y0 (.slice a2 W.length W.length) W f2∧Af [(15,.int .i64 (i:Int)),(14,.int .i64 (j:Int)),(13,.slice a2 W.length W.length),(12,.slice a1 K.length K.length),(8,.int .i64 0),(7,.slice none 0 0),(6,.slice none 0 0),(1,.slice a C.length cap),(2,.slice ap P.length cp)] Le∧AE S [S] S' ([(B3,.cells [.int .i64 p,.int .i64 q,.int .i64 r,.int .i64 t] 51 false true [])]++(f1++(f2++[]))) []) ?_ (m:=C.length) ⟨0,0,none,[],[],none,[],[],AA,AA,rfl,rfl,rfl,.inl ⟨rfl,rfl,rfl,rfl⟩,.inl ⟨rfl,rfl,rfl,rfl⟩,sE,hl⟩
 clear hl;rintro m Le S' ⟨i,j,a1,K,f1,a2,W,f2,hi,rfl,hj,hK,hW,Nd,Ei,AH,hl⟩;refine AK AH ?_
 have im:=Ut (p:=p) (q:=q) (r:=r) (t:=t) (C:=C) i
 have Nm:=bm (C:=C) i
 refine zg ?_
 constructor<;>intro H6
 ·
  have AN:i<C.length:=dT H6
  obtain⟨s,hs⟩:=Ad AN
  obtain⟨b1,o1,BF,ha,_,AQ,Aa⟩:=(hv.move (hl.since 0 rfl)).elem hs
  refine zg ?_
  constructor<;>intro Eh
  ·
   have Cn:s.kind≠3:=by simpa using Eh
   clear ha AQ Aa
   refine zg ?_;refine dL hl (ic 0) Tryz.underlying38 fun Dg S4 AHF hl=>?_;refine VC hl Nd rfl rfl rfl rfl rfl rfl rfl Tryz.underlying38 Tryz.underlying38 rfl rfl (by decide) AB (Cj (n:=1) (cap:=1) (new:=ic 0) AHF rfl) rfl rfl AB (by show K.length+1≤Ae;unfold Ae;omega) ?_;intro v60 f3 S5 Ej hl
   obtain⟨a3,rfl⟩:=Ej.is
   have Ej:=lz Ej
   have e3:K.length+1=(K++[(0:Int)]).length:=(A8 ..).symm
   rw[e3]
   refine zg ?_;refine dL hl (bc false) Tryz.underlying261 fun B62 S6 AHG hl=>?_
   have hl:AE S [S] S6 (([(B3,.cells [.int .i64 p,.int .i64 q,.int .i64 r,.int .i64 t] 51 false true [])]++f3)++(f2++[])) []:=hl.perm (.of_eq (List.append_assoc ..).symm)
   refine VC hl Ei rfl rfl rfl rfl rfl rfl rfl Tryz.underlying261 Tryz.underlying261 rfl rfl (by decide) AB (Cj (n:=1) (cap:=1) (new:=bc false) AHG rfl) rfl rfl AB (by show W.length+1≤Ae;unfold Ae;omega) ?_;intro v63 f4 S7 JW hl
   obtain⟨a4,rfl⟩:=JW.is
   have JW:=AEA JW
   have e4:W.length+1=(W++[false]).length:=(A8 ..).symm
   rw[e4]
   have hl:AE S [S] S7 ([(B3,.cells [.int .i64 p,.int .i64 q,.int .i64 r,.int .i64 t] 51 false true [])]++(f3++(f4++[]))) []:=hl.perm (.of_eq (List.append_assoc ..))
   refine zg ?_
   exact⟨C.length-(i+1),AA,i+1,j,a3,_,f3,a4,_,f4,AA,rfl,by rw[xH hs Cn];exact hj,by rw[←e3,Xb hs Cn];omega,by rw[←e4,Xb hs Cn];omega,Ej,JW,sE,hl⟩
  have Cn:s.kind=3:=by simpa using Eh
  obtain⟨i',s',rfl,PA,AHP⟩:∃i' s',i=i'+1∧nth C i'=some s'∧s'.kind≠3:=by
   rcases BI.s i s hs with h|⟨_,j',u,e,hu,HM,_⟩
   ·omega
   exact⟨j',u,e,hu,HM⟩
  have LC:=Xb PA AHP
  have Nk:=xG (p:=p) (q:=q) (r:=r) (t:=t) hs Cn PA
  have uy:=AIM (p:=p) (q:=q) (r:=r) (t:=t) (C:=C) (show i'+1+1≤C.length by omega)
  rw[Nk,A8,←hj]at uy
  obtain⟨c,hc⟩:=Ad (show j<P.length by omega)
  clear ha AQ Aa
  obtain⟨b2,o2,EH,ha,_,AQ,Aa⟩:=(hP.move (hl.since 0 rfl)).elem hc
  have tz:0<K.length:=by omega
  have Z9:0<W.length:=by omega
  obtain⟨bK,uK⟩:=OW.ne Nd tz
  obtain⟨bW,uL⟩:=OW.ne Ei Z9
  rw[uK]at Nd;rw[uL]at Ei
  refine zg ?_
  have e15:0+((K.length:Int)-1).toNat*1=K.length-1:=by omega
  rw[e15]
  obtain⟨bx,S4,f3,e1,Cc,Ej,W3⟩:=Yc (P:=Tryz.prog) hl Nd tz rfl (t:=3) (u:= .int .i64 c) AB (VK (g:=fun x=>Value.int .i64 x) c (k:=K.length-1) AA) ((HF (f:=fun x=>[Value.int .i64 x]) (z:=1) (fun _=>rfl) _).trans ((congrArg (· *1) (I' ..)).trans (HF (f:=ic) (z:=1) (fun _=>rfl) _).symm))
  cases e1
  refine R0 rfl rfl rfl rfl rfl rfl Cc ?_
  clear ha AQ Aa hl Cc
  have hl:AE S [S] S4 (([(B3,.cells [.int .i64 p,.int .i64 q,.int .i64 r,.int .i64 t] 51 false true [])]++f3)++(f2++[])) []:=W3.perm (.of_eq (List.append_assoc ..).symm)
  obtain⟨b2,o2,EH,ha,_,AQ,Aa⟩:=(hP.move (hl.since 0 rfl)).elem hc
  refine zg ?_
  have e16:0+((W.length:Int)-1).toNat*1=W.length-1:=by omega
  rw[e16]
  obtain⟨by_,S5,f4,e2,Iy,JW,W4⟩:=Yc (P:=Tryz.prog) hl Ei Z9 rfl (t:=4) (u:= .bool (c==0)) AB (VK (g:=fun x=>Value.bool x) (c==0) (k:=W.length-1) AA) ((HF (f:=fun x=>[Value.bool x]) (z:=1) (fun _=>rfl) _).trans ((congrArg (· *1) (I' ..)).trans (HF (f:=bc) (z:=1) (fun _=>rfl) _).symm))
  cases e2
  refine R0 rfl rfl rfl rfl rfl rfl Iy ?_
  clear ha AQ Aa hl Iy
  have hl:AE S [S] S5 ([(B3,.cells [.int .i64 p,.int .i64 q,.int .i64 r,.int .i64 t] 51 false true [])]++(f3++(f4++[]))) []:=W4.perm (.of_eq (List.append_assoc ..))
  have Ej:Ic (.slice (some ⟨bK,0,none⟩) (K.set (K.length-1) c).length (K.set (K.length-1) c).length) (K.set (K.length-1) c) f3:=by unfold Ic;rw[I'];exact Ej
  have JW:Y0 (.slice (some ⟨bW,0,none⟩) (W.set (W.length-1) (c==0)).length (W.set (W.length-1) (c==0)).length) (W.set (W.length-1) (c==0)) f4:=by unfold Y0;rw[I'];exact JW
  have eK:(K.set (K.length-1) c).length=K.length:=I' ..
  have eW:(W.set (W.length-1) (c==0)).length=W.length:=I' ..
  rw[uK,uL,←eK,←eW]
  refine zg ?_
  exact⟨C.length-(i'+1+1),AA,i'+1+1,j+1,_,_,f3,_,_,f4,AA,rfl,by rw[Nk,A8,←hj],by rw[eK,bk hs Cn];exact hK,by rw[eW,bk hs Cn];exact hW,Ej,JW,sE,hl⟩
 have DH:i=C.length:=dF H6
 subst DH
 refine zg ?_
 have LA:=OW.at_ (f:=ic) (fun _=>rfl) Nd hl Jg
 have CY:=OW.at_ (f:=bc) (fun _=>rfl) Ei hl (fun p hp=>List.mem_append.2 (.inr (List.mem_append.2 (.inr (List.mem_append.2 (.inl hp))))))
 exact BA (BD rfl (BD rfl (BD rfl rfl))) ⟨hl.AD,.inr ⟨BI,a1,K,a2,W,rfl,LA,CY,hK,hW⟩⟩
end Go.Proofs.YtmfphenhpkgidaaGreatDoor
namespace Go.Proofs.YtmfphenhpkgidaaGreatDoor
open Go.Cm Go
set_option maxRecDepth 100000
variable{S:St}
def nv:Sg:=⟨0,0,0,0,false,0,false,false,0,0,0,0,false,0,0,0,0⟩
theorem ABO(n:Int):IntKind.i64.wrap n≤9223372036854775807:=by
 rw[Go.IntWalk.i64_left]
 unfold RowKit.wrap64
 omega
theorem AAV(x:Ti)(n d:Int):CC Tryz.prog KK 274 [x.v,.int .i64 n,.int .i64 d] S (fun v S'=>AL S S'∧(∃y:Ti,v=y.v)):=by
 refine ce 22 Tryz.func274 fun hl=>?_;refine zg ?_;refine bL hl fun B3 S3 hl=>?_;refine aL hl [.int .i64 0,.int .i64 0] fun B6 S6 hl=>?_;refine zg ?_
 refine zc hl rfl (AOG _ _ (ABO _) (ABO _)) ?_;rintro v S1 AM ⟨y,e,rfl,_⟩ hl
 refine zg ?_;refine aL hl [.int .i64 0,.int .i64 0] fun B7 S7 hl=>?_;refine sL hl 0 y.cells fun S1 hl=>?_;refine zg ?_;refine sL hl 1 y.cells fun S1 hl=>?_;refine zg ?_
 exact BA (Bm rfl (lN (z:=2) (hl.get 1 rfl) rfl) rfl) ⟨hl.AD,y,rfl⟩
theorem VM(x:Sg):CC Tryz.prog KK 223 [x.v] S (fun v S'=>AL S S'∧(∃B:Bool,v= .bool B)):=by
 refine ce 10 Tryz.func223 fun hl=>?_;refine zg ?_;refine bL hl fun B1 S1 hl=>?_;refine zA ?_;refine AG rfl (Ex (fun Le S'=>∃b:Bool,Af [(2,.bool b)] Le∧AE S [S] S' [(B1,.cells x.cells 55 false true [])] []) ?_ ?_)
 ·
  refine zg ?_;refine AZ (d:=6) rfl (fun h6=>?_) (fun h6=>?_)
  ·
   refine zg ?_
   exact⟨rfl,_,sE,hl⟩
  refine zg ?_
  exact⟨rfl,_,sE,hl⟩
 clear hl;rintro Le S' ⟨b,AH,hl⟩;refine AK AH ?_
 refine zg ?_
 exact y1 rfl ⟨hl.AD,_,rfl⟩
theorem AAY(a:Option Addr)(cap:Nat)(C:List Sg)(i st:Int)(hn:C.length≤1000)(hi: -1≤i∧i≤C.length+1)(hs:st=1∨st= -1)(_:BW S)(hv:CW S (.slice a C.length cap) C):CC Tryz.prog KK 314 [.slice a C.length cap,.int .i64 i,.int .i64 st] S (fun v S'=>AL S S'∧(∃(y:Sg) (B:Bool),v=Aw [y.v,.bool B])):=by
 refine ce 30 Tryz.func314 fun hl=>?_;refine zg ?_;refine aL hl [.int .i64 0,.int .i64 0,.int .i64 0,.int .i64 0,.bool false,.int .i64 0,.bool false,.bool false,.int .i64 0,.int .i64 0,.int .i64 0,.int .i64 0,.bool false,.int .i64 0,.int .i64 0,.int .i64 0,.int .i64 0] fun B6 S6 hl=>?_;refine zA ?_;refine AG rfl ?_;refine Az rfl ?_;refine AK (L':=[(7,.bool false),(6,ptrTo B6 0),(0,.slice a C.length cap),(1,.int .i64 i),(2,.int .i64 st)]) sE ?_
 refine A2 rfl (fun m Le S'=>∃j:Int, -1≤j∧j≤C.length+1∧m=(2000-st*j).toNat∧Af [(7,.bool false),(6,ptrTo B6 0),(0,.slice a C.length cap),(1,.int .i64 j),(2,.int .i64 st)] Le∧AE S [S] S' [(B6,.cells [.int .i64 0,.int .i64 0,.int .i64 0,.int .i64 0,.bool false,.int .i64 0,.bool false,.bool false,.int .i64 0,.int .i64 0,.int .i64 0,.int .i64 0,.bool false,.int .i64 0,.int .i64 0,.int .i64 0,.int .i64 0] 55 false true [])] []) ?_ (m:=(2000-st*i).toNat) ⟨i,hi.1,hi.2,rfl,sE,hl⟩
 clear hl;rintro m Le S' ⟨j,hj1,HH,rfl,AH,hl⟩;refine AK AH ?_
 refine AG rfl ?_;refine AG rfl (CR hl 15 (.bool (decide (j≥0)&&decide (j<(C.length:Int)))) ?_ rfl ?_)
 ·
  refine zg ?_;refine AZ (d:=10) rfl (fun Bs=>?_) (fun Bs=>?_)
  ·
   refine zg ?_
   exact⟨rfl,bl (by rw[Bs];rfl),sB,hl⟩
  refine zg ?_
  exact⟨rfl,bl (by rw[Bs];rfl),sB,hl⟩
 intro S1 hl
 refine zg ?_
 constructor<;>intro Bo
 ·
  have Bo:j≥0∧j<(C.length:Int):=by simpa using Bo
  obtain⟨k,rfl,hk⟩:=I1 Bo.1 Bo.2
  obtain⟨x,hx⟩:=Ad hk
  obtain⟨b1,o1,BF,ha,_,AQ,Aa⟩:=hv.elem hx
  refine zg ?_
  constructor<;>intro Bf
  ·
   refine zg ?_;refine sL hl 0 x.cells fun S1 hl=>?_;refine zg ?_
   exact Ai (AR (Bg (AR (Ai (BA (Bm rfl (lN (z:=17) (hl.get 0 rfl) rfl) (BD rfl rfl)) ⟨hl.AD,x,_,rfl⟩)))))
  have hb: -1≤(k:Int)+st∧(k:Int)+st≤C.length+1:=by rcases hs with rfl|rfl<;>omega
  refine zg ?_
  exact⟨(2000-st*((k:Int)+st)).toNat,by rcases hs with rfl|rfl<;>omega,(k:Int)+st,hb.1,hb.2,rfl,sE,hl⟩
 refine zg ?_;refine rr rfl (A9 rfl rfl (v:=AX nv.cells) (by rfl)) ?_;refine sL hl 0 nv.cells fun S1 hl=>?_;refine zg ?_
 exact BA (Bm rfl (lN (z:=17) (hl.get 0 rfl) rfl) (BD rfl rfl)) ⟨hl.AD,nv,_,rfl⟩
set_option maxHeartbeats 4000000 in
theorem AOD(p q r t:Int)(a:Option Addr)(cap:Nat)(C:List Sg)(i:Nat)(hn:C.length≤1000)(hi:i<C.length)(hF:BW S)(hv:CW S (.slice a C.length cap) C):CC Tryz.prog KK 272 [EY p q r t,.slice a C.length cap,.int .i64 (i:Int)] S (fun v S'=>AL S S'∧(∃B:Bool,v= .bool B)):=by
 refine ce 97 Tryz.func272 fun hl=>?_;refine zg ?_;refine bL hl fun B3 S3 hl=>?_;refine zA ?_;refine AG rfl ?_;refine AG rfl (JF 54 (fun v S'=>∃B:Bool,v= .bool B∧(B=false→(i:Int)+1<C.length)∧AE S [S] S' [(B3,.cells [.int .i64 p,.int .i64 q,.int .i64 r,.int .i64 t] 51 false true [])] []) ?_ ?_)
 ·
  refine zg ?_;refine AZ (d:=16) rfl (fun Bt=>?_) (fun Bt=>?_)
  ·
   refine zg ?_
   exact⟨rfl,_,bl rfl,sB,_,rfl,nofun,hl⟩
  have Bt:(i:Int)+1<C.length:=dF Bt
  obtain⟨x,hx⟩:=Ad hi
  obtain⟨y,hy⟩:=Ad (show i+1<C.length by omega)
  obtain⟨b1,o1,BF,ha,_,AQ,Aa,F0⟩:=hv.sc hx hy
  refine zg ?_
  refine zc hl rfl (VM x) ?_;rintro v S1 AM ⟨Q1,rfl⟩ hl
  refine rr rfl (BY rfl rfl rfl) ?_;refine zg ?_;refine AZ (d:=24) rfl (fun Ef=>?_) (fun Ef=>?_)
  ·
   refine zg ?_
   exact⟨rfl,_,bl rfl,sB,_,rfl,fun _=>Bt,hl⟩
  refine zg ?_;refine AZ (d:=32) rfl (fun E1=>?_) (fun E1=>?_)
  ·
   refine zg ?_
   exact⟨rfl,_,bl rfl,sB,_,rfl,fun _=>Bt,hl⟩
  refine zg ?_
  refine zc hl rfl (VM y) ?_;rintro v S1 AM ⟨Q2,rfl⟩ hl
  refine rr rfl (BY rfl rfl rfl) ?_;refine zg ?_;refine AZ (d:=41) rfl (fun FT=>?_) (fun FT=>?_)
  ·
   refine zg ?_
   exact⟨rfl,_,bl rfl,sB,_,rfl,fun _=>Bt,hl⟩
  refine zg ?_;refine AZ (d:=50) rfl (fun H7=>?_) (fun H7=>?_)
  ·
   refine zg ?_
   exact⟨rfl,_,bl rfl,sB,_,rfl,fun _=>Bt,hl⟩
  refine zg ?_
  refine zc hl rfl (Pp p q r t 4) ?_;rintro v S1 AM rfl hl
  refine zg ?_
  exact⟨rfl,_,bl rfl,sB,_,rfl,fun _=>Bt,hl⟩
 clear hl;rintro v S1 ⟨Q,rfl,hQ,hl⟩
 refine zg ?_
 constructor<;>intro Ip
 ·
  refine zg ?_
  exact(z1 rfl ⟨hl.AD,_,rfl⟩)
 have Bt:=hQ Ip
 refine Ar rfl ?_;refine AG rfl ?_;refine AG rfl (HW hl 68 Value.bool ?_ rfl ?_)
 ·
  refine zg ?_;refine AZ (d:=60) rfl (fun Oz=>?_) (fun Oz=>?_)
  ·
   have Oz:=I6 Oz
   obtain⟨y,hy⟩:=Ad (show i+2<C.length by omega)
   obtain⟨b1,o1,BF,ha,_,AQ,Aa⟩:=hv.elem hy
   refine zg ?_
   exact⟨rfl,⟨_,bl rfl⟩,sB,hl⟩
  refine zg ?_
  exact⟨rfl,⟨_,bl rfl⟩,sB,hl⟩
 clear hl;intro q68 S1 hl
 refine zg ?_
 constructor<;>intro Gd
 ·
  refine zg ?_
  exact(z1 rfl ⟨hl.AD,_,rfl⟩)
 refine zg ?_
 refine zc hl rfl (AAY a cap C ((i:Int)-1) (-1) hn AA (.inr rfl) (hl.AD.3 hF) (hv.move (hl.since 0 rfl))) ?_;rintro v S1 AM ⟨x,f1,rfl⟩ hl
 refine zg ?_;refine aL hl [.int .i64 0,.int .i64 0,.int .i64 0,.int .i64 0,.bool false,.int .i64 0,.bool false,.bool false,.int .i64 0,.int .i64 0,.int .i64 0,.int .i64 0,.bool false,.int .i64 0,.int .i64 0,.int .i64 0,.int .i64 0] fun B7 S7 hl=>?_;refine sL hl 0 x.cells fun S1 hl=>?_;refine zg ?_
 refine zc hl rfl (AAY a cap C ((i:Int)+2) 1 hn AA (.inl rfl) (hl.AD.3 hF) (hv.move (hl.since 0 rfl))) ?_;rintro v S1 AM ⟨y,f2,rfl⟩ hl
 refine zg ?_;refine aL hl [.int .i64 0,.int .i64 0,.int .i64 0,.int .i64 0,.bool false,.int .i64 0,.bool false,.bool false,.int .i64 0,.int .i64 0,.int .i64 0,.int .i64 0,.bool false,.int .i64 0,.int .i64 0,.int .i64 0,.int .i64 0] fun B9 S9 hl=>?_;refine sL hl 0 y.cells fun S1 hl=>?_;refine zA ?_;refine AG rfl (Ex (fun Le S'=>∃b:Bool,Af [(6,.bool b)] Le∧AE S [S] S' [(B9,.cells y.cells 55 false true []),(B7,.cells x.cells 55 false true []),(B3,.cells [.int .i64 p,.int .i64 q,.int .i64 r,.int .i64 t] 51 false true [])] []) ?_ ?_)
 ·
  refine zg ?_;refine AZ (d:=84) rfl (fun Nc=>?_) (fun Nc=>?_)
  ·
   refine zg ?_
   refine zc hl rfl (VM x) ?_;rintro v S1 AM ⟨Q1,rfl⟩ hl
   refine zg ?_;refine rr rfl (BY rfl rfl rfl) ?_;refine zg ?_;refine AZ (d:=89) rfl (fun Z6=>?_) (fun Z6=>?_)
   ·
    refine zg ?_;refine AZ (d:=91) rfl (fun gx=>?_) (fun gx=>?_)
    ·
     refine zg ?_
     refine zc hl rfl (VM y) ?_;rintro v S1 AM ⟨Q2,rfl⟩ hl
     refine zg ?_;refine rr rfl (BY rfl rfl rfl) ?_;refine zg ?_
     exact⟨rfl,_,sE,hl⟩
    refine zg ?_;refine rr rfl (BY rfl rfl rfl) ?_;refine zg ?_
    exact⟨rfl,_,sE,hl⟩
   refine zg ?_
   exact⟨rfl,_,sE,hl⟩
  refine zg ?_;refine rr rfl (BY rfl rfl rfl) ?_;refine zg ?_;refine AZ (d:=89) rfl (fun Z6=>?_) (fun Z6=>?_)
  ·
   refine zg ?_;refine AZ (d:=91) rfl (fun gx=>?_) (fun gx=>?_)
   ·
    refine zg ?_
    refine zc hl rfl (VM y) ?_;rintro v S1 AM ⟨Q2,rfl⟩ hl
    refine zg ?_;refine rr rfl (BY rfl rfl rfl) ?_;refine zg ?_
    exact⟨rfl,_,sE,hl⟩
   refine zg ?_;refine rr rfl (BY rfl rfl rfl) ?_;refine zg ?_
   exact⟨rfl,_,sE,hl⟩
  cases Z6
 clear hl;rintro Le S' ⟨b,AH,hl⟩;refine AK AH ?_
 refine zg ?_
 exact y1 rfl ⟨hl.AD,_,rfl⟩
def ABm(S':St)(p q r t:Int)(C:List Sg)(v:Value):Prop:=(∃e:Int,e≠0∧v=Aw [.slice none 0 0,.int .i64 e])∨(M8 p q r t C∧∃a1 K,v=Aw [.slice a1 K.length K.length,.int .i64 0]∧CZ S' (.slice a1 K.length K.length) K∧K.length≤C.length)
theorem AAL(p q r t:Int)(a:Option Addr)(cap:Nat)(C:List Sg)(hn:C.length≤1000)(hF:BW S)(hv:CW S (.slice a C.length cap) C):CC Tryz.prog KK 219 [EY p q r t,.slice a C.length cap] S (fun v S'=>AL S S'∧(ABm S' p q r t C v)):=by
 refine ce 30 Tryz.func219 fun hl=>?_;refine zg ?_;refine bL hl fun B2 S2 hl=>?_;refine zg ?_
 refine zc hl rfl (oB p q r t a cap C hn (hl.AD.3 hF) (hv.move (hl.since 0 rfl))) ?_;rintro v S1 AM ⟨e,rfl,he⟩ hl
 refine zg ?_
 constructor<;>intro EA
 ·
  refine zg ?_
  exact(z2 rfl rfl ⟨hl.AD,.inl ⟨e,by simpa using EA,rfl⟩⟩)
 have BI:=he.1 (by simpa using EA)
 refine Ar rfl ?_;refine zS ?_;refine AG rfl ?_;refine zS ?_;refine Az rfl ?_
 have hl:=hl.D2 (g:=Cx none []) (.inl ⟨rfl,rfl,rfl⟩)
 refine AK (L':=[(8,.int .i64 0),(7,.slice none 0 0),(5,.int .i64 0),(4,.slice none 0 0),(2,ptrTo B2 0),(1,.slice a C.length cap)]) sE ?_
 refine A2 rfl (fun m Le S'=>∃(i:Nat) (av:Option Addr) (K:List Int),i≤C.length∧m=C.length-i∧K.length≤i∧Af [(8,.int .i64 (i:Int)),(7,.slice av K.length K.length),(5,.int .i64 0),(4,.slice none 0 0),(2,ptrTo B2 0),(1,.slice a C.length cap)] Le∧AE S [S] S' [(B2,.cells [.int .i64 p,.int .i64 q,.int .i64 r,.int .i64 t] 51 false true [])] [Cx av K]) ?_ (m:=C.length) ⟨0,none,[],AA,AA,by simp,sE,hl⟩
 clear hl;rintro m Le S' ⟨i,av,K,hi,rfl,hK,AH,hl⟩;refine AK AH ?_
 refine zg ?_
 constructor<;>intro Ct
 ·
  have AN:i<C.length:=dT Ct
  refine zg ?_
  refine zc hl rfl (AOD p q r t a cap C i hn AN (hl.AD.3 hF) (hv.move (hl.since 0 rfl))) ?_;rintro v S1 AM ⟨Q,rfl⟩ hl
  refine zg ?_
  constructor<;>intro Ef
  ·
   refine zg ?_;refine dL hl (ic (i:Int)) Tryz.underlying38 fun B27 S1 AG4 hl=>?_;refine DZ hl 0 rfl rfl (by simp) rfl rfl rfl rfl rfl rfl rfl Tryz.underlying38 Tryz.underlying38 rfl rfl AB (Cj (n:=1) (cap:=1) AG4 rfl) rfl rfl AB (by show K.length+1≤Ae;unfold Ae;omega) ?_;intro v28 S1 hl
   obtain⟨As,rfl⟩:∃x,v28= .slice x (K.length+1) (K.length+1):=Am.C5 (hl.gr _ Al)
   have hl:AE S [S] S1 _ [Cx As (K++[(i:Int)])]:=JQ hl
   refine zg ?_
   exact⟨C.length-(i+1),AA,i+1,As,_,AA,rfl,by rw[A8];omega,⟨rfl,by rw[A8];rfl,rfl,rfl,rfl,rfl,trivial⟩,hl⟩
  refine zg ?_
  exact⟨C.length-(i+1),AA,i+1,av,K,AA,rfl,AA,sE,hl⟩
 refine zg ?_
 exact y2 rfl rfl ⟨hl.AD,.inr ⟨BI,av,K,rfl,Am.ls (f:=ic) (fun _=>rfl) (hl.gr _ Al),AA⟩⟩
end Go.Proofs.YtmfphenhpkgidaaGreatDoor
namespace Go.Proofs.YtmfphenhpkgidaaGreatDoor
open Go.Cm Go
set_option maxRecDepth 100000
variable{S:St}
theorem AAM(p q r t k:Int)(hk: -100≤k∧k≤100)(ih:k<5→∀S:St,CC Tryz.prog KK 224 [EY p q r t,.int .i64 (k+1)] S (fun v S'=>AL S S'∧∃y:Ti,v=y.v)):CC Tryz.prog KK 224 [EY p q r t,.int .i64 k] S (fun v S'=>AL S S'∧(∃y:Ti,v=y.v)):=by
 refine ce 45 Tryz.func224 fun hl=>?_;refine zg ?_;refine bL hl fun B2 S2 hl=>?_;refine aL hl [.int .i64 0,.int .i64 0] fun B4 S4 hl=>?_;refine zg ?_
 refine zc hl rfl (oC p q r t k hk) ?_;rintro v S1 AM ⟨x,e,rfl⟩ hl
 refine zg ?_;refine aL hl [.int .i64 0,.int .i64 0] fun B5 S5 hl=>?_;refine sL hl 0 x.cells fun S1 hl=>?_;refine zg ?_
 refine zc hl rfl (AAH p q r t) ?_;rintro v S1 AM hL hl
 obtain⟨al,cl,D,e2,rfl⟩:∃(al:Option Addr) (cl:Nat) (D:List Int) (e2:Int),v=Aw [.slice al D.length cl,.int .i64 e2]:=by
  rcases hL with ⟨e2,_,rfl⟩|⟨al,D,rfl,_⟩
  ·exact⟨none,0,[],e2,rfl⟩
  exact⟨al,D.length,D,0,rfl⟩
 clear hL
 refine zA ?_;refine AG rfl ?_;refine Az rfl ?_;refine AG rfl (JF 20 (fun v S'=>∃B:Bool,v= .bool B∧(B=false→5≤k∨k<5)∧AE S [S] S' [(B5,.cells x.cells 103 false true []),(B4,.cells [.int .i64 0,.int .i64 0] 103 false true []),(B2,.cells [.int .i64 p,.int .i64 q,.int .i64 r,.int .i64 t] 51 false true [])] []) ?_ ?_)
 ·
  refine zg ?_;refine AZ (d:=24) rfl (fun Ef=>?_) (fun Ef=>?_)
  ·
   refine zg ?_
   exact⟨rfl,_,bl rfl,sB,_,rfl,fun _=>by omega,hl⟩
  refine zg ?_;refine AZ (d:=27) rfl (fun CX=>?_) (fun CX=>?_)
  ·
   refine zg ?_
   refine zc hl rfl (Pp p q r t k) ?_;rintro v S1 AM rfl hl
   refine zg ?_
   exact⟨rfl,_,bl rfl,sB,_,rfl,fun _=>by omega,hl⟩
  refine zg ?_
  exact⟨rfl,_,bl rfl,sB,_,rfl,fun _=>by omega,hl⟩
 clear hl;rintro v S1 ⟨Q,rfl, -,hl⟩
 refine zg ?_
 constructor<;>intro Cq
 ·
  refine zg ?_
  refine zc hl rfl (AAV x 2 3) ?_;rintro v S1 AM ⟨y,rfl⟩ hl
  refine sL hl 1 y.cells fun S1 hl=>?_;refine zg ?_
  exact AR (Ai (BA (Bm rfl (lN (z:=2) (hl.get 1 rfl) rfl) rfl) ⟨hl.AD,y,rfl⟩))
 refine zg ?_
 constructor<;>intro Eg
 ·
  refine zg ?_;refine sL hl 1 x.cells fun S1 hl=>?_;refine zg ?_
  exact AR (Ai (BA (Bm rfl (lN (z:=2) (hl.get 1 rfl) rfl) rfl) ⟨hl.AD,x,rfl⟩))
 have Eg:k<5:=dF Eg
 refine zg ?_
 refine zc hl rfl (ih Eg _) ?_;rintro v S1 AM ⟨x2,rfl⟩ hl
 refine zc hl rfl (AAV x2 2 1) ?_;rintro v S1 AM ⟨y,rfl⟩ hl
 refine sL hl 1 y.cells fun S1 hl=>?_;refine zg ?_
 exact BA (Bm rfl (lN (z:=2) (hl.get 1 rfl) rfl) rfl) ⟨hl.AD,y,rfl⟩
theorem sb(p q r t:Int):∀(n:Nat) (k:Int), -100≤k∧k≤100→100-k≤n→∀S:St,CC Tryz.prog KK 224 [EY p q r t,.int .i64 k] S (fun v S'=>AL S S'∧∃y:Ti,v=y.v)
 |0,k,hk,hn,_=>AAM p q r t k hk (fun h=>by omega)
 |n+1,k,hk,hn,_=>AAM p q r t k hk (fun h=>sb p q r t n (k+1) AA AA)
abbrev gT(av:Option Addr)(D:List Ti):Gr:=Hc 103 2 Ti.cells (.slice av D.length D.length) D
theorem tY{Ts:List St}{S0 S1:St}{l:List (Nat×AF)}{av:Option Addr}{D:List Ti}{x:Ti}(h:AE S0 Ts S1 l [⟨.slice av (D.length+1) (D.length+1),103,2,(D.map Ti.cells).flatten++x.cells,D.length+1⟩]):AE S0 Ts S1 l [gT av (D++[x])]:=by
 unfold gT
 rw[Im]
 exact h
theorem AEl{p q r t:Int}{C:List Sg}(h:M8 p q r t C){i:Nat}{s:Sg}(hs:nth C i=some s)(hk:s.kind≠3):1≤s.value∧s.value≤8:=by
 rcases h.s i s hs with h|h
 ·exact h.2
 exact absurd h.1 hk
def ABc(S':St)(n:Nat)(v:Value):Prop:=(∃e:Int,e≠0∧v=Aw [.slice none 0 0,.int .i64 e])∨(∃a1 K,v=Aw [.slice a1 K.length K.length,.int .i64 0]∧eZ S' (.slice a1 K.length K.length) K∧K.length=n)
set_option maxHeartbeats 4000000 in
theorem ANv(p q r t:Int)(a:Option Addr)(cap:Nat)(C:List Sg)(ap:Option Addr)(cp:Nat)(P:List Int)(hn:C.length≤1000)(hp:P.length≤1000)(hF:BW S)(hv:CW S (.slice a C.length cap) C)(hP:CZ S (.slice ap P.length cp) P):CC Tryz.prog KK 182 [EY p q r t,.slice a C.length cap,.slice ap P.length cp] S (fun v S'=>AL S S'∧(ABc S' (GP C C.length) v)):=by
 refine ce 124 Tryz.func182 fun hl=>?_;refine zg ?_;refine bL hl fun B3 S3 hl=>?_;refine zg ?_
 refine zc hl rfl (AAL p q r t a cap C hn (hl.AD.3 hF) (hv.move (hl.since 0 rfl))) ?_;rintro v S1 AM hR hl
 rcases hR with ⟨e,he,rfl⟩|⟨BI,ak,K,rfl,hK,hKl⟩
 ·
  refine zg ?_
  constructor<;>intro DG
  ·
   refine zg ?_
   exact z2 rfl rfl ⟨hl.AD,.inl ⟨e,he,rfl⟩⟩
  exact absurd (by simpa using DG) he
 refine zg ?_
 constructor<;>intro DA
 ·
  refine zg ?_
  exact z2 rfl rfl ⟨hl.AD,.inl ⟨_,by decide,rfl⟩⟩
 have hPK:P.length=K.length:=by
  have h:(P.length:Int)=K.length:=by simpa using DA
  omega
 have hl:=hl.mark
 refine Ar rfl ?_;refine AG rfl ?_;refine zS ?_;refine Az rfl ?_;refine AK (L':=[(10,.int .i64 0),(8,.slice ak K.length K.length),(7,.int .i64 0),(6,.slice none 0 0),(3,ptrTo B3 0),(1,.slice a C.length cap),(2,.slice ap P.length cp)]) sE ?_
 refine A2 rfl (fun m Le S'=>∃i:Nat,i≤P.length∧m=P.length-i∧Af [(10,.int .i64 (i:Int)),(8,.slice ak K.length K.length),(7,.int .i64 0),(6,.slice none 0 0),(3,ptrTo B3 0),(1,.slice a C.length cap),(2,.slice ap P.length cp)] Le∧AE S [S1,S] S' [(B3,.cells [.int .i64 p,.int .i64 q,.int .i64 r,.int .i64 t] 51 false true [])] []) ?_ (m:=P.length) ⟨0,AA,AA,sE,hl⟩
 clear hl;rintro m Le S' ⟨i,hi,rfl,AH,hl⟩;refine AK AH ?_
 refine zg ?_
 constructor<;>intro EU
 ·
  have AN:i<P.length:=dT EU
  obtain⟨c,hc⟩:=Ad AN
  obtain⟨b2,o2,EH,ha,_,AQ,Aa⟩:=hP.elem hc
  refine Ar rfl ?_;refine AG rfl ?_;refine Az rfl ?_;refine AG rfl (HW hl 47 Value.bool ?_ rfl ?_)
  ·
   refine zg ?_;refine AZ (d:=41) rfl (fun FT=>?_) (fun FT=>?_)
   ·
    refine zg ?_
    exact⟨rfl,⟨_,bl rfl⟩,sB,hl⟩
   refine zg ?_
   exact⟨rfl,⟨_,bl rfl⟩,sB,hl⟩
  clear ha AQ Aa hl;intro q47 S1 hl
  refine zg ?_
  constructor<;>intro K3
  ·
   refine zg ?_
   exact AR (Ai (Bg (AR ((z2 rfl rfl ⟨hl.AD,.inl ⟨_,by decide,rfl⟩⟩)))))
  refine zg ?_
  exact⟨P.length-(i+1),AA,i+1,AA,rfl,sE,hl⟩
 clear hi AH
 refine HB rfl ?_;refine zS ?_;refine AG rfl ?_;refine zS ?_;refine Az rfl ?_
 have hl:=hl.D2 (g:=gT none []) (.inl ⟨rfl,rfl,rfl⟩)
 refine AK (L':=[(12,.int .i64 0),(11,.slice none 0 0),(8,.slice ak K.length K.length),(7,.int .i64 0),(6,.slice none 0 0),(3,ptrTo B3 0),(1,.slice a C.length cap),(2,.slice ap P.length cp)]) sE ?_
 refine A2 rfl (fun m Le S'=>∃(i:Nat) (av:Option Addr) (O:List Ti),i≤C.length∧m=C.length-i∧O.length=GP C i∧Af [(12,.int .i64 (i:Int)),(11,.slice av O.length O.length),(8,.slice ak K.length K.length),(7,.int .i64 0),(6,.slice none 0 0),(3,ptrTo B3 0),(1,.slice a C.length cap),(2,.slice ap P.length cp)] Le∧AE S [S1,S] S' [(B3,.cells [.int .i64 p,.int .i64 q,.int .i64 r,.int .i64 t] 51 false true [])] [gT av O]) ?_ (m:=C.length) ⟨0,none,[],AA,AA,rfl,sE,hl⟩
 clear hl;rintro m Le S' ⟨i,av,O,hi,rfl,hO,AH,hl⟩;refine AK AH ?_
 have Nm:=bm (C:=C) i
 refine zg ?_
 constructor<;>intro Wi
 ·
  have AN:i<C.length:=dT Wi
  obtain⟨s,hs⟩:=Ad AN
  obtain⟨b1,o1,BF,ha,_,AQ,Aa⟩:=hv.elem hs
  refine zg ?_
  constructor<;>intro Iq
  ·
   have Cn:s.kind=3:=by simpa using Iq
   refine zg ?_
   exact⟨C.length-(i+1),AA,i+1,av,O,AA,rfl,by rw[hO,bk hs Cn],sE,hl⟩
  have Cn:s.kind≠3:=by simpa using Iq
  have hva:=AEl BI hs Cn
  have hl:=hl.mark
  refine zg ?_;refine BC (idx:=[0,1,2,3,4,5,10,6,7,8,9,11,12]) rfl AB AB ?_;refine zg ?_;refine KZ hF hl rfl rfl rfl rfl rfl (z:=[.int .i64 0,.int .i64 0]) AB ?_;intro JH Y1 hl
  refine zp hl rfl (oC p q r t s.value AA) ?_;rintro v S4 AM ⟨x,e,rfl⟩ hl;refine⟨zt,?_⟩
  refine zg ?_
  refine pL hl 0 x.cells (h:=fun S5 hl=>⟨zt,?_⟩)
  clear ha AQ Aa
  obtain⟨b1,o1,BF,ha,_,AQ,Aa⟩:=hv.elem hs
  refine zA ?_;refine AG rfl (Ex (fun Le S'=>∃y:Ti,Af [(13,ptrTo JH 0),(12,.int .i64 (i:Int)),(11,.slice av O.length O.length),(8,.slice ak K.length K.length),(7,.int .i64 0),(6,.slice none 0 0),(3,ptrTo B3 0),(1,.slice a C.length cap),(2,.slice ap P.length cp)] Le∧AE S [S1,S] S' [(JH,.cells y.cells 103 false true []),(B3,.cells [.int .i64 p,.int .i64 q,.int .i64 r,.int .i64 t] 51 false true [])] [gT av O]) ?_ ?_)
  ·
   refine zg ?_
   refine zc hl rfl (VM s) ?_;rintro v S6 AM ⟨Q,rfl⟩ hl
   refine zg ?_
   constructor<;>intro Qr
   ·
    refine BC (idx:=[0,1,2,3,4,5,6,7]) rfl AB AB ?_;refine zg ?_
    refine zp hl rfl (sb p q r t 200 s.value AA AA _) ?_;rintro v S7 AM ⟨y,rfl⟩ hl;refine⟨zt,?_⟩
    refine pL hl 0 y.cells (h:=fun S8 hl=>⟨zt,?_⟩)
    refine zg ?_
    exact⟨rfl,y,sE,hl.marks (Us:=[S1,S]) (fun T hT=>BQ hT)⟩
   refine zg ?_
   exact⟨rfl,x,sE,hl.marks (Us:=[S1,S]) (fun T hT=>BQ hT)⟩
  clear ha AQ Aa hl AH;rintro Le S6 ⟨y,AH,hl⟩;refine AK AH ?_
  refine AG rfl ?_;refine zS ?_;refine Az rfl ?_;refine AK (L':=[(15,.int .i64 0),(13,ptrTo JH 0),(12,.int .i64 (i:Int)),(11,.slice av O.length O.length),(8,.slice ak K.length K.length),(7,.int .i64 0),(6,.slice none 0 0),(3,ptrTo B3 0),(1,.slice a C.length cap),(2,.slice ap P.length cp)]) sE ?_
  refine A2 rfl (fun m Le S'=>∃(k:Nat) (y:Ti),k≤K.length∧m=K.length-k∧Af [(15,.int .i64 (k:Int)),(13,ptrTo JH 0),(12,.int .i64 (i:Int)),(11,.slice av O.length O.length),(8,.slice ak K.length K.length),(7,.int .i64 0),(6,.slice none 0 0),(3,ptrTo B3 0),(1,.slice a C.length cap),(2,.slice ap P.length cp)] Le∧AE S [S1,S] S' [(JH,.cells y.cells 103 false true []),(B3,.cells [.int .i64 p,.int .i64 q,.int .i64 r,.int .i64 t] 51 false true [])] [gT av O]) ?_ (m:=K.length) ⟨0,y,AA,AA,sE,hl⟩
  clear hl AH;rintro m Le S' ⟨k,y,hk,rfl,AH,hl⟩;refine AK AH ?_
  refine zg ?_
  constructor<;>intro UD
  ·
   have UQ:k<K.length:=dT UD
   obtain⟨c,hc⟩:=Ad (show k<P.length by omega)
   obtain⟨d,H'⟩:=Ad UQ
   obtain⟨b2,o2,EH,FD,_,GK,F0⟩:=hP.elem hc
   obtain⟨b3,o3,H3,Is,_,Ix,IE⟩:=(hK.move (hl.since 0 rfl)).elem H'
   refine Ar rfl ?_;refine AG rfl ?_;iterate 2 refine Az rfl ?_
   refine AG rfl (HW hl 88 Value.bool ?_ rfl ?_)
   ·
    refine zg ?_;refine AZ (d:=94) rfl (fun Qs=>?_) (fun Qs=>?_)
    ·
     refine zg ?_
     exact⟨rfl,⟨_,bl rfl⟩,sB,hl⟩
    refine zg ?_
    exact⟨rfl,⟨_,bl rfl⟩,sB,hl⟩
   clear hl;intro q88 S7 hl
   refine zg ?_
   constructor<;>intro O2
   ·
    refine zg ?_;refine rr rfl (A9 rfl rfl (v:=AX (Ti.mk 3 2).cells) (by rfl)) ?_;refine sL hl 0 ((Ti.mk 3 2).cells) fun S8 hl=>?_;refine zg ?_
    exact⟨K.length-(k+1),AA,k+1,_,AA,rfl,sE,hl⟩
   have GK:=GK
   refine AG rfl (HW hl 103 Value.bool ?_ rfl ?_)
   ·
    clear FD GK F0 Is Ix IE
    obtain⟨b2,o2,EH,FD,_,GK,F0⟩:=hP.elem hc
    obtain⟨b3,o3,H3,Is,_,Ix,IE⟩:=(hK.move (hl.since 0 rfl)).elem H'
    refine zg ?_;refine AZ (d:=109) rfl (fun AF7=>?_) (fun AF7=>?_)
    ·
     refine zg ?_
     exact⟨rfl,⟨_,bl rfl⟩,sB,hl⟩
    refine zg ?_
    exact⟨rfl,⟨_,bl rfl⟩,sB,hl⟩
   clear hl;intro ATT S8 hl
   refine zg ?_
   constructor<;>intro ti
   ·
    refine zg ?_;refine rr rfl (A9 rfl rfl (v:=AX (Ti.mk 1 2).cells) (by rfl)) ?_;refine sL hl 0 ((Ti.mk 1 2).cells) fun S9 hl=>?_;refine zg ?_
    exact⟨K.length-(k+1),AA,k+1,_,AA,rfl,sE,hl⟩
   refine zg ?_
   exact⟨K.length-(k+1),AA,k+1,_,AA,rfl,sE,hl⟩
  refine zg ?_;refine dL hl y.cells Tryz.underlying91 fun ABY S7 jJ hl=>?_;refine DZ hl 0 rfl rfl (by simp) rfl rfl rfl rfl rfl rfl rfl Tryz.underlying91 Tryz.underlying91 rfl rfl AB (Cj (n:=1) (cap:=1) jJ rfl) rfl rfl AB (by show O.length+1≤Ae;unfold Ae;omega) ?_;intro oi S8 hl
  obtain⟨As,rfl⟩:∃x,oi= .slice x (O.length+1) (O.length+1):=Am.C5 (hl.gr _ Al)
  have hl:AE S [S1,S] S8 _ [gT As (O++[y])]:=tY hl
  refine zg ?_
  exact⟨C.length-(i+1),AA,i+1,As,_,AA,rfl,by rw[A8,Xb hs Cn];omega,⟨rfl,by rw[A8];rfl,rfl,rfl,rfl,rfl,rfl,rfl,trivial⟩,hl.tail⟩
 have DH:i=C.length:=dF Wi
 subst DH
 refine zg ?_
 exact y2 rfl rfl ⟨hl.AD,.inr ⟨av,O,rfl,Am.ls (f:=Ti.cells) (fun _=>rfl) (hl.gr _ Al),hO⟩⟩
end Go.Proofs.YtmfphenhpkgidaaGreatDoor
namespace Go.Proofs.YtmfphenhpkgidaaGreatDoor
open Go.Cm Go
set_option maxRecDepth 100000
variable{S:St}
abbrev Ou(av:Option Addr)(D:List It):Gr:=Hc 266 12 It.cells (.slice av D.length D.length) D
theorem AFs{Ts:List St}{S0 S1:St}{l:List (Nat×AF)}{av:Option Addr}{D:List It}{x:It}(h:AE S0 Ts S1 l [⟨.slice av (D.length+1) (D.length+1),266,12,(D.map It.cells).flatten++x.cells,D.length+1⟩]):AE S0 Ts S1 l [Ou av (D++[x])]:=by
 unfold Ou
 rw[Im]
 exact h
def ABf(S':St)(n:Nat)(v:Value):Prop:=(∃e:Int,e≠0∧v=Aw [.slice none 0 0,.int .i64 e])∨(∃a1 K,v=Aw [.slice a1 K.length K.length,.int .i64 0]∧Gu S' (.slice a1 K.length K.length) K∧K.length=n)
set_option maxHeartbeats 4000000 in
theorem ANm(p q r t:Int)(a:Option Addr)(cap:Nat)(C:List Sg)(ap:Option Addr)(cp:Nat)(P:List Int)(am:Option Addr)(cm:Nat)(M:List Int)(hn:C.length≤1000)(hp:P.length≤1000)(hm:M.length≤1000)(hF:BW S)(hv:CW S (.slice a C.length cap) C)(hP:CZ S (.slice ap P.length cp) P)(hM:CZ S (.slice am M.length cm) M):CC Tryz.prog KK 145 [EY p q r t,.slice a C.length cap,.slice ap P.length cp,.slice am M.length cm] S (fun v S'=>AL S S'∧(ABf S' (GP C C.length) v)):=by
 refine ce 124 Tryz.func145 fun hl=>?_;refine zg ?_;refine bL hl fun B4 S4 hl=>?_;refine zg ?_
 refine zc hl rfl (ANu p q r t a cap C ap cp P hn hp (hl.AD.3 hF) (hv.move (hl.since 0 rfl)) (hP.move (hl.since 0 rfl))) ?_;rintro v S1 AM hR hl
 rcases hR with ⟨e,he,rfl⟩|⟨BI,ak,K,aw,W,rfl,hK,hW,hKl,hWl⟩
 ·
  refine zg ?_
  constructor<;>intro CX
  ·
   refine zg ?_
   exact z2 rfl rfl ⟨hl.AD,.inl ⟨e,he,rfl⟩⟩
  exact absurd (by simpa using CX) he
 have hl:=hl.mark
 refine zg ?_
 refine zc hl rfl (ANv p q r t a cap C am cm M hn hm (hl.AD.3 hF) (hv.move (hl.since 1 rfl)) (hM.move (hl.since 1 rfl))) ?_;rintro v S2 ED hR hl
 rcases hR with ⟨e,he,rfl⟩|⟨ad,D,rfl,hD,MC⟩
 ·
  refine zg ?_
  constructor<;>intro HG
  ·
   refine zg ?_
   exact z2 rfl rfl ⟨hl.AD,.inl ⟨e,he,rfl⟩⟩
  exact absurd (by simpa using HG) he
 have hl:=hl.mark
 refine zg ?_
 have hl:=hl.D2 (g:=Ou none []) (.inl ⟨rfl,rfl,rfl⟩)
 refine AK (L':=[(15,.int .i64 0),(14,.slice none 0 0),(13,.slice ad D.length D.length),(11,.slice aw W.length W.length),(10,.slice ak K.length K.length),(9,.int .i64 0),(8,.slice none 0 0),(1,.slice a C.length cap)]) sE ?_
 refine A2 rfl (fun m Le S'=>∃(i:Nat) (av:Option Addr) (O:List It),i≤C.length∧m=C.length-i∧O.length=GP C i∧Af [(15,.int .i64 (i:Int)),(14,.slice av O.length O.length),(13,.slice ad D.length D.length),(11,.slice aw W.length W.length),(10,.slice ak K.length K.length),(9,.int .i64 0),(8,.slice none 0 0),(1,.slice a C.length cap)] Le∧AE S [S2,S1,S] S' [(B4,.cells [.int .i64 p,.int .i64 q,.int .i64 r,.int .i64 t] 51 false true [])] [Ou av O]) ?_ (m:=C.length) ⟨0,none,[],AA,AA,rfl,sE,hl⟩
 clear hl;rintro m Le S' ⟨i,av,O,hi,rfl,hO,AH,hl⟩;refine AK AH ?_
 have Nm:=bm (C:=C) i
 refine zg ?_
 constructor<;>intro Oy
 ·
  have AN:i<C.length:=dT Oy
  obtain⟨s,hs⟩:=Ad AN
  obtain⟨b1,o1,BF,ha,_,AQ,Aa⟩:=hv.elem hs
  refine zg ?_
  constructor<;>intro H7
  ·
   have Cn:s.kind=3:=by simpa using H7
   refine zg ?_
   exact⟨C.length-(i+1),AA,i+1,av,O,AA,rfl,by rw[hO,bk hs Cn],sE,hl⟩
  have Cn:s.kind≠3:=by simpa using H7
  have LC:=Xb hs Cn
  have uy:=AIx (C:=C) (show i+1≤C.length by omega)
  obtain⟨c,hc⟩:=Ad (show O.length<K.length by omega)
  obtain⟨w,hw⟩:=Ad (show O.length<W.length by omega)
  obtain⟨d,H'⟩:=Ad (show O.length<D.length by omega)
  obtain⟨b2,o2,EH,FD,_,GK,F0⟩:=(hK.move (hl.since 1 rfl)).elem hc
  obtain⟨b3,o3,H3,Is,_,Ix,IE⟩:=(hD.move (hl.since 0 rfl)).elem H'
  refine zg ?_;refine BC (idx:=[0,1,2,3,4,5,6,7,8,9,10,11,12,13,14,15,16,17,18,19,20,21,22,23,24]) rfl AB AB ?_;refine zg ?_;iterate 2 refine pr rfl (A9 rfl rfl (v:=AX (Ti.mk 0 1).cells) (by rfl)) ?_
  refine pr rfl (A9 rfl rfl (v:=AX (It.mk i s.value (s.kind==2) false false c d ⟨0,1⟩ ⟨0,1⟩).cells) (by rfl)) ?_;refine KZ hF hl rfl rfl rfl rfl rfl (z:=[.int .i64 0,.int .i64 0,.bool false,.bool false,.bool false,.int .i64 0,.int .i64 0,.int .i64 0,.int .i64 0,.int .i64 0,.int .i64 0,.int .i64 0]) AB ?_;intro OS eU hl
  refine pL hl 0 ((It.mk i s.value (s.kind==2) false false c d ⟨0,1⟩ ⟨0,1⟩).cells) (h:=fun S5 hl=>⟨zt,?_⟩)
  clear ha AQ Aa FD GK F0 Is Ix IE
  generalize It.mk i s.value (s.kind==2) false false c d ⟨0,1⟩ ⟨0,1⟩=y at hl
  obtain⟨b1,o1,BF,ha,_,AQ,Aa⟩:=hv.elem hs
  refine zA ?_;refine AG rfl (Ex (fun Le S'=>∃y:It,Af [(17,ptrTo OS 0),(16,.int .i64 (O.length:Int)),(15,.int .i64 (i:Int)),(14,.slice av O.length O.length),(13,.slice ad D.length D.length),(11,.slice aw W.length W.length),(10,.slice ak K.length K.length),(9,.int .i64 0),(8,.slice none 0 0),(1,.slice a C.length cap)] Le∧AE S [S2,S1,S] S' [(OS,.cells y.cells 266 false true []),(B4,.cells [.int .i64 p,.int .i64 q,.int .i64 r,.int .i64 t] 51 false true [])] [Ou av O]) ?_ ?_)
  ·
   refine zg ?_;refine AZ (d:=81) rfl (fun gw=>?_) (fun gw=>?_)
   ·
    refine zg ?_;refine rr rfl (BY rfl rfl rfl) ?_;refine zg ?_;refine sL hl 0 (({y with co:=!y.re}:It).cells) fun S6 hl=>?_;refine zg ?_
    exact⟨rfl,_,sE,hl⟩
   refine zg ?_;refine sL hl 0 (({y with co:=false}:It).cells) fun S6 hl=>?_;refine zA ?_
   exact⟨rfl,_,sE,hl⟩
  clear ha AQ Aa hl AH y;rintro Le S6 ⟨y,AH,hl⟩;refine AK AH ?_
  obtain⟨b3,o3,H3,Is,_,Ix,IE⟩:=(hW.move (hl.since 1 rfl)).elem hw
  refine AG rfl (Ex (fun Le S'=>∃y:It,Af [(17,ptrTo OS 0),(16,.int .i64 (O.length:Int)),(15,.int .i64 (i:Int)),(14,.slice av O.length O.length),(13,.slice ad D.length D.length),(11,.slice aw W.length W.length),(10,.slice ak K.length K.length),(9,.int .i64 0),(8,.slice none 0 0),(1,.slice a C.length cap)] Le∧AE S [S2,S1,S] S' [(OS,.cells y.cells 266 false true []),(B4,.cells [.int .i64 p,.int .i64 q,.int .i64 r,.int .i64 t] 51 false true [])] [Ou av O]) ?_ ?_)
  ·
   refine zg ?_
   constructor<;>intro Z7
   ·
    refine zg ?_;refine rr rfl (A9 rfl rfl (v:=AX (Ti.mk 3 2).cells) (by rfl)) ?_
    refine zc hl rfl (ANw y.du ⟨3,2⟩) ?_;rintro v S7 ATK ⟨z,e,rfl,_⟩ hl
    refine zg ?_;refine sL hl 0 (({y with du:=z}:It).cells) fun S8 hl=>?_;refine zg ?_
    exact⟨rfl,_,sE,hl⟩
   refine Ar rfl ?_
   exact⟨rfl,_,sE,hl⟩
  clear Is Ix IE hl AH y;rintro Le S7 ⟨y,AH,hl⟩;refine AK AH ?_
  obtain⟨b3,o3,H3,Is,_,Ix,IE⟩:=(hW.move (hl.since 1 rfl)).elem hw
  refine AG rfl (Ex (fun Le S'=>∃y:It,Af [(17,ptrTo OS 0),(16,.int .i64 (O.length:Int)),(15,.int .i64 (i:Int)),(14,.slice av O.length O.length),(13,.slice ad D.length D.length),(11,.slice aw W.length W.length),(10,.slice ak K.length K.length),(9,.int .i64 0),(8,.slice none 0 0),(1,.slice a C.length cap)] Le∧AE S [S2,S1,S] S' [(OS,.cells y.cells 266 false true []),(B4,.cells [.int .i64 p,.int .i64 q,.int .i64 r,.int .i64 t] 51 false true [])] [Ou av O]) ?_ ?_)
  ·
   refine zg ?_;refine AZ (d:=101) rfl (fun AF5=>?_) (fun AF5=>?_)
   ·
    refine zg ?_;refine sL hl 0 (({y with fi:=true}:It).cells) fun S8 hl=>?_;refine zg ?_
    exact⟨rfl,_,sE,hl⟩
   refine zg ?_;refine AZ (d:=105) rfl (fun AF6=>?_) (fun AF6=>?_)
   ·
    refine zg ?_;refine sL hl 0 (({y with fi:=true}:It).cells) fun S8 hl=>?_;refine zg ?_
    exact⟨rfl,_,sE,hl⟩
   refine zg ?_;refine AZ (d:=111) rfl (fun AF8=>?_) (fun AF8=>?_)
   ·
    refine zg ?_;refine sL hl 0 (({y with fi:=true}:It).cells) fun S8 hl=>?_;refine zg ?_
    exact⟨rfl,_,sE,hl⟩
   refine zg ?_;refine sL hl 0 (({y with fi:=(y.cu==y.va)}:It).cells) fun S8 hl=>?_;refine zg ?_
   exact⟨rfl,_,sE,hl⟩
  clear Is Ix IE hl AH y;rintro Le S8 ⟨y,AH,hl⟩;refine AK AH ?_
  refine zg ?_;refine dL hl y.cells Tryz.underlying208 fun ABY S9 jJ hl=>?_;refine DZ hl 0 rfl rfl (by simp) rfl rfl rfl rfl rfl rfl rfl Tryz.underlying208 Tryz.underlying208 rfl rfl AB (Cj (n:=1) (cap:=1) jJ rfl) rfl rfl AB (by show O.length+1≤Ae;unfold Ae;omega) ?_;intro oi GB hl
  obtain⟨As,rfl⟩:∃x,oi= .slice x (O.length+1) (O.length+1):=Am.C5 (hl.gr _ Al)
  have hl:AE S [S2,S1,S] GB _ [Ou As (O++[y])]:=AFs hl
  refine zg ?_
  exact⟨C.length-(i+1),AA,i+1,As,_,AA,rfl,by rw[A8];omega,⟨rfl,by rw[A8];rfl,rfl,rfl,rfl,rfl,rfl,rfl,trivial⟩,hl.tail⟩
 have DH:i=C.length:=dF Oy
 subst DH
 refine zg ?_
 exact y2 rfl rfl ⟨hl.AD,.inr ⟨av,O,rfl,Am.ls (f:=It.cells) (fun _=>rfl) (hl.gr _ Al),hO⟩⟩
end Go.Proofs.YtmfphenhpkgidaaGreatDoor
namespace Go.Proofs.YtmfphenhpkgidaaGreatDoor
open Go.Cm Go
set_option maxRecDepth 100000
variable{S:St}
theorem QO{α:Type}{l:List α}{i:Nat}{x:α}(h:nth l i=some x):l.take (i+1)=l.take i++[x]:=by
 rw[List.take_add_one,←CE,h]
 rfl
theorem AKA{α:Type}(n:Nat)(x:α):List.replicate (n+1) x=List.replicate n x++[x]:=List.replicate_succ'
def EL(p q r t:Int)(C:List Sg)(n:Nat):List Int:=(FX p q r t C C.length).map (fun k:Nat=>(k:Int))++List.replicate n 2
theorem xc{p q r t:Int}{C:List Sg}{n:Nat}{x:Int}(h:x∈EL p q r t C n):1≤x∧x≤2:=by
 rcases List.mem_append.1 h with h|h
 ·obtain⟨k,hk,rfl⟩:=List.mem_map.1 h
  have:=lV _ k hk
  omega
 rw[(List.mem_replicate.1 h).2]
 decide
theorem lg{p q r t:Int}{C:List Sg}{n:Nat}:(EL p q r t C n).length=(FX p q r t C C.length).length+n:=by
 rw[EL,DS,D1,List.length_replicate]
theorem AAJ(p q r t:Int)(a:Option Addr)(cap:Nat)(C:List Sg)(hn:C.length≤1000)(BI:M8 p q r t C)(hF:BW S)(hv:CW S (.slice a C.length cap) C):CC Tryz.prog KK 179 [EY p q r t,.slice a C.length cap] S (fun v S'=>AL S S'∧(∃ak n,v= .slice ak (EL p q r t C n).length (EL p q r t C n).length∧CZ S' (.slice ak (EL p q r t C n).length (EL p q r t C n).length) (EL p q r t C n)∧n≤C.length)):=by
 refine ce 48 Tryz.func179 fun hl=>?_;refine zg ?_;refine bL hl fun B2 S2 hl=>?_;refine zg ?_
 refine zc hl rfl (oA p q r t a cap C hn (hl.AD.3 hF) (hv.move (hl.since 0 rfl))) ?_;rintro v S1 AM hR hl
 rcases hR with ⟨Ek,_⟩|⟨_,ag,G,rfl,hG,Qx,JV⟩
 ·exact absurd BI Ek
 have Wm:G.length=(FX p q r t C C.length).length:=by rw[←JV,D1]
 have tw:=Ut (p:=p) (q:=q) (r:=r) (t:=t) (C:=C) C.length
 have hl:=hl.mark
 refine zA ?_;refine AG rfl ?_;refine zS ?_;refine Az rfl ?_
 have hl:=hl.D2 (g:=Cx none []) (.inl ⟨rfl,rfl,rfl⟩)
 refine AK (L':=[(8,.int .i64 0),(6,.slice ag G.length G.length),(5,.slice none 0 0),(4,.slice none 0 0),(2,ptrTo B2 0),(1,.slice a C.length cap)]) sE ?_
 refine A2 rfl (fun m Le S'=>∃(i:Nat) (av:Option Addr) (K:List Int),i≤G.length∧m=G.length-i∧K.length=i∧K=(G.take i).map (fun w=>(w.C.length:Int))∧Af [(8,.int .i64 (i:Int)),(6,.slice ag G.length G.length),(5,.slice av K.length K.length),(4,.slice none 0 0),(2,ptrTo B2 0),(1,.slice a C.length cap)] Le∧AE S [S1,S] S' [(B2,.cells [.int .i64 p,.int .i64 q,.int .i64 r,.int .i64 t] 51 false true [])] [Cx av K]) ?_ (m:=G.length) ⟨0,none,[],AA,AA,rfl,rfl,sE,hl⟩
 clear hl;rintro m Le S' ⟨i,av,K,hi,rfl,Wn,hK,AH,hl⟩;refine AK AH ?_
 refine zg ?_
 constructor<;>intro Bf
 ·
  have AN:i<G.length:=dT Bf
  obtain⟨w,hw⟩:=Ad AN
  obtain⟨b1,o1,BF,ha,_,AQ,Aa⟩:=(hG.move (hl.since 0 rfl)).elem hw
  refine zg ?_;refine dL hl (ic (w.C.length:Int)) Tryz.underlying38 fun B30 S3 AG7 hl=>?_;refine DZ hl 0 rfl rfl (by simp) rfl rfl rfl rfl rfl rfl rfl Tryz.underlying38 Tryz.underlying38 rfl rfl AB (Cj (n:=1) (cap:=1) AG7 rfl) rfl rfl AB (by show K.length+1≤Ae;unfold Ae;omega) ?_;intro v31 S3 hl
  obtain⟨As,rfl⟩:∃x,v31= .slice x (K.length+1) (K.length+1):=Am.C5 (hl.gr _ Al)
  have hl:AE S [S1,S] S3 _ [Cx As (K++[(w.C.length:Int)])]:=JQ hl
  refine zg ?_
  exact⟨G.length-(i+1),AA,i+1,As,_,AA,rfl,by rw[A8];omega,by rw[QO hw,Hm,←hK];rfl,⟨rfl,rfl,by rw[A8];rfl,rfl,rfl,rfl,trivial⟩,hl⟩
 have DH:i=G.length:=dF Bf
 subst DH
 rw[List.take_length]at hK
 have hK:K=EL p q r t C 0:=by
  rw[hK,EL,←JV,List.map_map]
  exact(List.append_nil _).symm
 clear Wn AH
 subst hK
 refine zg ?_
 refine zc hl rfl (AAL p q r t a cap C hn (hl.AD.3 hF) (hv.move (hl.since 1 rfl))) ?_;rintro v S3 Cn hR hl
 obtain⟨ap,np,cp,e2,rfl,hnp⟩:∃(ap:Option Addr) (np cp:Nat) (e2:Int),v=Aw [.slice ap np cp,.int .i64 e2]∧np≤C.length:=by
  rcases hR with ⟨e2,_,rfl⟩|⟨_,al,D,rfl,_,hD⟩
  ·exact⟨none,0,0,e2,rfl,AA⟩
  exact⟨al,D.length,D.length,0,rfl,hD⟩
 clear hR
 refine zA ?_;refine AG rfl ?_;refine zS ?_;refine Az rfl ?_;refine AK (L':=[(11,.int .i64 0),(9,.slice ap np cp),(5,.slice av (EL p q r t C 0).length (EL p q r t C 0).length),(4,.slice none 0 0)]) sE ?_
 refine A2 rfl (fun m Le S'=>∃(i:Nat) (av:Option Addr),i≤np∧m=np-i∧Af [(11,.int .i64 (i:Int)),(9,.slice ap np cp),(5,.slice av (EL p q r t C i).length (EL p q r t C i).length),(4,.slice none 0 0)] Le∧AE S [S1,S] S' [(B2,.cells [.int .i64 p,.int .i64 q,.int .i64 r,.int .i64 t] 51 false true [])] [Cx av (EL p q r t C i)]) ?_ (m:=np) ⟨0,av,AA,AA,sE,hl⟩
 clear hl;rintro m Le S' ⟨i,av,hi,rfl,AH,hl⟩;refine AK AH ?_
 have LB:=lg (p:=p) (q:=q) (r:=r) (t:=t) (C:=C) (n:=i)
 refine zg ?_
 constructor<;>intro FT
 ·
  have AN:i<np:=dT FT
  refine zg ?_;refine dL hl (ic 2) Tryz.underlying38 fun B45 S4 AHB hl=>?_;refine DZ hl 0 rfl rfl (by simp) rfl rfl rfl rfl rfl rfl rfl Tryz.underlying38 Tryz.underlying38 rfl rfl AB (Cj (n:=1) (cap:=1) AHB rfl) rfl rfl AB (by show(EL p q r t C i).length+1≤Ae;unfold Ae;omega) ?_;intro v46 S5 hl
  obtain⟨As,rfl⟩:∃x,v46= .slice x ((EL p q r t C i).length+1) ((EL p q r t C i).length+1):=Am.C5 (hl.gr _ Al)
  have hl:AE S [S1,S] S5 _ [Cx As (EL p q r t C i++[2])]:=JQ hl
  have e1:EL p q r t C i++[2]=EL p q r t C (i+1):=by rw[EL,EL,AKA,List.append_assoc]
  rw[e1]at hl
  refine zg ?_
  exact⟨np-(i+1),AA,i+1,As,AA,rfl,⟨rfl,rfl,by rw[←e1,A8];rfl,rfl,trivial⟩,hl⟩
 refine zg ?_
 exact y1 rfl ⟨hl.AD,av,i,rfl,Am.ls (f:=ic) (fun _=>rfl) (hl.gr _ Al),AA⟩
def p7(p q r t:Int)(C:List Sg)(v:Value):Prop:=(∃c e:Int,e≠0∧v=Aw [.int .i64 c,.int .i64 e])∨M8 p q r t C∧∃c e:Int,e=0∧1≤c∧c≤64∧v=Aw [.int .i64 c,.int .i64 e]
theorem AAI(p q r t:Int)(a:Option Addr)(cap:Nat)(C:List Sg)(hn:C.length≤1000)(hF:BW S)(hv:CW S (.slice a C.length cap) C):CC Tryz.prog KK 177 [EY p q r t,.slice a C.length cap] S (fun v S'=>AL S S'∧(p7 p q r t C v)):=by
 refine ce 34 Tryz.func177 fun hl=>?_;refine zg ?_;refine bL hl fun B2 S2 hl=>?_;refine zg ?_
 refine zc hl rfl (oB p q r t a cap C hn (hl.AD.3 hF) (hv.move (hl.since 0 rfl))) ?_;rintro v S1 AM ⟨e,rfl,he⟩ hl
 refine zg ?_
 constructor<;>intro BZ
 ·
  refine zg ?_
  exact z2 rfl rfl ⟨hl.AD,.inl ⟨_,e,by simpa using BZ,rfl⟩⟩
 have BI:=he.1 (by simpa using BZ)
 refine zg ?_
 refine zc hl rfl (AAJ p q r t a cap C hn BI (hl.AD.3 hF) (hv.move (hl.since 0 rfl))) ?_;rintro v S3 Cn ⟨ak,n,rfl,hK,Gg⟩ hl
 have KL:=@xc p q r t C n
 have Wn:(EL p q r t C n).length≤2000:=by
  have:=Ut (p:=p) (q:=q) (r:=r) (t:=t) (C:=C) C.length
  rw[lg]
  omega
 generalize EL p q r t C n=K at hK Wn KL ⊢
 have hl:=hl.mark
 refine zA ?_;refine AG rfl ?_;refine zS ?_;refine Az rfl ?_;refine AK (L':=[(9,.int .i64 0),(8,.slice ak K.length K.length),(7,.int .i64 1),(5,.int .i64 0),(4,.int .i64 0)]) sE ?_
 refine A2 rfl (fun m Le S'=>∃(i:Nat) (N:Int),i≤K.length∧1≤N∧N≤64∧m=K.length-i∧Af [(9,.int .i64 (i:Int)),(8,.slice ak K.length K.length),(7,.int .i64 N),(5,.int .i64 0),(4,.int .i64 0)] Le∧AE S [S3,S] S' [(B2,.cells [.int .i64 p,.int .i64 q,.int .i64 r,.int .i64 t] 51 false true [])] []) ?_ (m:=K.length) ⟨0,1,AA,AA,AA,AA,sE,hl⟩
 clear hl;rintro m Le S' ⟨i,N,hi,Qy,EW,rfl,AH,hl⟩;refine AK AH ?_
 refine zg ?_
 constructor<;>intro Dy
 ·
  have AN:i<K.length:=dT Dy
  obtain⟨x,hx⟩:=Ad AN
  have IH:=KL (BV hx)
  have UR:=GO (a:=N) (b:=x) AA EW AA IH.2
  have RG:1≤N*x:=by
   have:=Int.mul_pos (show 0<N by omega) (show 0<x by omega)
   omega
  obtain⟨b1,o1,BF,ha,_,AQ,Aa⟩:=(hK.move (hl.since 0 rfl)).elem hx
  refine zg ?_
  constructor<;>intro E1
  ·
   refine zg ?_
   exact AR (Ai (Bg (AR ((z2 rfl rfl ⟨hl.AD,.inl ⟨_,_,by decide,rfl⟩⟩)))))
  have E1:N*x≤64:=dF E1
  refine zg ?_
  exact⟨K.length-(i+1),AA,i+1,N*x,AA,RG,E1,rfl,sE,hl⟩
 refine zg ?_
 exact y2 rfl rfl ⟨hl.AD,.inr ⟨BI,N,0,rfl,Qy,EW,rfl⟩⟩
theorem cU:∀n,EE n [Value.int .i64 0]=((List.replicate n (0:Int)).map ic).flatten
 |0=>rfl
 |n+1=>by
  show _++EE n _=_
  rw[cU n]
  rfl
def OfR(S':St)(v:Value):Prop:=(∃e:Int,e≠0∧v=Aw [.slice none 0 0,.slice none 0 0,.int .i64 e])∨(∃a1 K a2 W,v=Aw [.slice a1 K.length K.length,.slice a2 W.length W.length,.int .i64 0]∧CZ S' (.slice a1 K.length K.length) K∧CZ S' (.slice a2 W.length W.length) W∧K.length≤1000∧W.length≤1000)
set_option maxHeartbeats 4000000 in
theorem ANl(p q r t:Int)(a:Option Addr)(cap:Nat)(C:List Sg)(N:Int)(hn:C.length≤1000)(hF:BW S)(hv:CW S (.slice a C.length cap) C):CC Tryz.prog KK 144 [EY p q r t,.slice a C.length cap,.int .i64 N] S (fun v S'=>AL S S'∧(OfR S' v)):=by
 refine ce 102 Tryz.func144 fun hl=>?_;refine zg ?_;refine bL hl fun B3 S3 hl=>?_;refine zg ?_
 refine zc hl rfl (AAI p q r t a cap C hn (hl.AD.3 hF) (hv.move (hl.since 0 rfl))) ?_;rintro v S1 AM hR hl
 rcases hR with ⟨c,e,he,rfl⟩|⟨BI,c,e,he,Q6,MG,rfl⟩
 ·
  refine zg ?_
  constructor<;>intro C3
  ·
   refine zg ?_
   exact WL rfl rfl rfl ⟨hl.AD,.inl ⟨e,he,rfl⟩⟩
  exact absurd (by simpa using C3) he
 refine zg ?_
 constructor<;>intro C3
 ·exact absurd he (by simpa using C3)
 clear C3 he
 refine Ar rfl ?_;refine AG rfl ?_;refine AG rfl (CR hl 34 (.bool (decide (N<0)||decide (N≥c))) ?_ rfl ?_)
 ·
  refine zg ?_;refine AZ (d:=30) rfl (fun CJ=>?_) (fun CJ=>?_)
  ·
   refine zg ?_
   exact⟨rfl,bl (by rw[CJ];rfl),sB,hl⟩
  refine zg ?_
  exact⟨rfl,bl (by rw[CJ];rfl),sB,hl⟩
 clear hl;intro S4 hl
 refine zg ?_
 constructor<;>intro E2
 ·
  refine zg ?_
  exact WL rfl rfl rfl ⟨hl.AD,.inl ⟨_,by decide,rfl⟩⟩
 have E2:0≤N∧N<c:=by simpa using E2
 refine zg ?_
 refine zc hl rfl (AAJ p q r t a cap C hn BI (hl.AD.3 hF) (hv.move (hl.since 0 rfl))) ?_;rintro v S5 W0 ⟨ak,n,rfl,hK,Gg⟩ hl
 have Hj:=hl.AD
 have JU:=hl.AD.3 hF
 have jV:=hv.move (hl.since 0 rfl)
 have h3:=hl.at_ B3 _ Al
 have hd:At S5 B3 (.cells [.int .i64 p,.int .i64 q,.int .i64 r,.int .i64 t] 51 false true []):=⟨fun g=>(g.2 B3 h3.2.2).trans h3.1⟩
 have KL:=@xc p q r t C n
 have LB:=lg (p:=p) (q:=q) (r:=r) (t:=t) (C:=C) (n:=n)
 have Ja:=Ut (p:=p) (q:=q) (r:=r) (t:=t) (C:=C) C.length
 have aP:∀i x,nth (EL p q r t C n) i=some x→∀y:Nat,nth (FX p q r t C C.length) i=some y→x=y:=by
  intro i x hx y hy
  rw[CE]at hx hy
  rw[EL,List.getElem?_append_left (by rw[D1];exact(List.getElem?_eq_some_iff.1 hy).1),List.getElem?_map,hy]at hx
  exact(Option.some.inj hx).symm
 generalize EL p q r t C n=K at hK LB KL aP ⊢
 clear hl
 have hl:=BE.start S5
 refine zg ?_;refine mr hl rfl rfl rfl rfl rfl rfl rfl rfl rfl Tryz.underlying38 (z:= .int .i64 0) AB AB (by unfold Ae;omega) ?_;intro Kg S6 hl
 have hO:Ic (.slice (some ⟨Kg,0,none⟩) (List.replicate K.length (0:Int)).length (List.replicate K.length (0:Int)).length) (List.replicate K.length 0) [(Kg,.cells (EE K.length (BG (.int .i64 0))) 3 true true [])]:= .inr ⟨Kg,[],rfl,by rw[HF (f:=ic) (z:=1) (fun _=>rfl)],by rw[←cU];rfl,fun _ h=>(List.not_mem_nil h).elim⟩
 have hl:AE S5 [S5] S6 ([]++([(Kg,.cells (EE K.length (BG (.int .i64 0))) 3 true true [])]++[])) []:=hl
 generalize [(Kg,AF.cells (EE K.length (BG (.int .i64 0))) 3 true true [])]=fW at hO hl
 refine zA ?_;refine AG rfl ?_;refine zS ?_;refine Az rfl ?_;refine AK (L':=[(13,.int .i64 ((K.length:Int)-1)),(12,.slice (some ⟨Kg,0,none⟩) K.length K.length),(11,.slice ak K.length K.length),(8,.int .i64 0),(7,.slice none 0 0),(6,.slice none 0 0),(3,ptrTo B3 0),(1,.slice a C.length cap),(2,.int .i64 N)]) sE ?_
 refine A2 rfl (fun m Le S'=>∃(j:Nat) (W:List Int) (fW:List (Nat×AF)) (M:Int),j≤K.length∧m=j∧0≤M∧M≤64∧W.length=K.length∧(∀i x w,j≤i→nth K i=some x→nth W i=some w→0≤w∧w<x)∧Ic (.slice (some ⟨Kg,0,none⟩) W.length W.length) W fW∧Af [(13,.int .i64 ((j:Int)-1)),(12,.slice (some ⟨Kg,0,none⟩) K.length K.length),(11,.slice ak K.length K.length),(8,.int .i64 0),(7,.slice none 0 0),(6,.slice none 0 0),(3,ptrTo B3 0),(1,.slice a C.length cap),(2,.int .i64 M)] Le∧AE S5 [S5] S' ([]++(fW++[])) []) ?_ (m:=K.length) ⟨K.length,_,fW,N,AA,AA,AA,AA,List.length_replicate (n:=K.length) (a:=(0:Int)),(fun i x w h hx _=>absurd (I5 hx) AA),hO,sE,hl⟩
 clear hl hO fW;rintro m Le S' ⟨m,W,fW,M,hj,rfl,UG,uC,hW,uJ,hO,AH,hl⟩;refine AK AH ?_
 refine zg ?_
 constructor<;>intro DB
 ·
  obtain⟨j,rfl⟩:∃j,m=j+1:=⟨m-1,dT DB⟩
  have e1:((j+1:Nat):Int)-1=(j:Int):=by omega
  rw[e1]
  obtain⟨x,hx⟩:=Ad (show j<K.length by omega)
  have IH:=KL (BV hx)
  have vG:=IV (a:=M) (b:=x) AA UG
  have hqb:=Hn (a:=M) (b:=x) AA UG
  obtain⟨b1,o1,BF,ha,_,AQ,Aa⟩:=(hK.move (hl.since 0 rfl)).elem hx
  refine zg ?_
  have e2:0+(j:Int).toNat*1=j:=by omega
  rw[e2]
  obtain⟨bx,S7,f3,e3,Cc,Ej,W3⟩:=Yc (P:=Tryz.prog) hl hO AA rfl (t:=3) (u:= .int .i64 (M.tmod x)) AB (VK (g:=fun x=>Value.int .i64 x) (M.tmod x) (k:=j) AA) ((HF (f:=fun x=>[Value.int .i64 x]) (z:=1) (fun _=>rfl) _).trans ((congrArg (· *1) (I' ..)).trans (HF (f:=ic) (z:=1) (fun _=>rfl) _).symm))
  cases e3
  refine R0 rfl rfl rfl rfl rfl rfl Cc ?_
  clear ha AQ Aa hl Cc
  have hl:=W3
  obtain⟨b1,o1,BF,ha,_,AQ,Aa⟩:=(hK.move (hl.since 0 rfl)).elem hx
  refine zg ?_
  exact⟨j,AA,j,W.set j (M.tmod x),f3,M.tdiv x,AA,rfl,AA,AA,by rw[I'];exact hW,(fun i y w h hy hw=>by
   rcases Nat.eq_or_lt_of_le h with h|h
   ·subst h
    rw[hx]at hy
    cases hy
    rw[CE,List.getElem?_set_self AA]at hw
    cases hw
    exact vG
   rw[CE,List.getElem?_set_ne AA,←CE]at hw
   exact uJ i y w AA hy hw),by unfold Ic;rw[I'];exact Ej,sE,hl⟩
 have HJ:m=0:=dF DB
 subst HJ
 have Q0:=OW.at_ (f:=ic) (fun _=>rfl) hO hl Jg
 have Hj:=Hj.trans hl.AD
 have JU:=hl.AD.3 JU
 have jV:=jV.move (hl.since 0 rfl)
 have hK:=hK.move (hl.since 0 rfl)
 have hd:At S' B3 (.cells [.int .i64 p,.int .i64 q,.int .i64 r,.int .i64 t] 51 false true []):=⟨fun g=>hd.at_ (hl.AD.trans g)⟩
 rw[hW]at Q0
 clear hl hO hj AH
 have hl:=BE.start S'
 refine zg ?_
 refine zc hl rfl (oA p q r t a cap C hn (hl.AD.3 JU) (jV.move (hl.since 0 rfl))) ?_;rintro v S8 iq hR hl
 rcases hR with ⟨Ek,_⟩|⟨_,ag,G,rfl,hG,Qx,JV⟩
 ·exact absurd BI Ek
 have Wm:G.length=(FX p q r t C C.length).length:=by rw[←JV,D1]
 have hl:=hl.mark
 refine zA ?_;refine zS ?_;refine AG rfl ?_;refine zS ?_;refine Az rfl ?_
 have hl:AE S' [S8,S'] S8 ([]++([]++([]++[]))) []:=hl
 refine AK (L':=[(18,.int .i64 0),(17,.slice none 0 0),(16,.slice none 0 0),(14,.slice ag G.length G.length),(12,.slice (some ⟨Kg,0,none⟩) K.length K.length),(11,.slice ak K.length K.length),(8,.int .i64 0),(7,.slice none 0 0),(6,.slice none 0 0)]) sE ?_
 refine A2 rfl (fun m Le S9=>∃(i:Nat) (a1:Option Addr) (D:List Int) (f1:List (Nat×AF)) (a2:Option Addr) (Y:List Int) (f2:List (Nat×AF)),i≤K.length∧m=K.length-i∧D.length=min i G.length∧Y.length=i-G.length∧Ic (.slice a1 D.length D.length) D f1∧Ic (.slice a2 Y.length Y.length) Y f2∧Af [(18,.int .i64 (i:Int)),(17,.slice a2 Y.length Y.length),(16,.slice a1 D.length D.length),(14,.slice ag G.length G.length),(12,.slice (some ⟨Kg,0,none⟩) K.length K.length),(11,.slice ak K.length K.length),(8,.int .i64 0),(7,.slice none 0 0),(6,.slice none 0 0)] Le∧AE S' [S8,S'] S9 ([]++(f1++(f2++[]))) []) ?_ (m:=K.length) ⟨0,none,[],[],none,[],[],AA,AA,(Nat.zero_min _).symm,(Nat.zero_sub _).symm,.inl ⟨rfl,rfl,rfl,rfl⟩,.inl ⟨rfl,rfl,rfl,rfl⟩,sE,hl⟩
 clear hl;rintro m Le S9 ⟨i,a1,D,f1,a2,Y,f2,hi,rfl,MC,hYl,Nd,Ei,AH,hl⟩;refine AK AH ?_
 refine zg ?_
 constructor<;>intro Wk
 ·
  have AN:i<K.length:=dT Wk
  obtain⟨x,hx⟩:=Ad AN
  obtain⟨wv,jc⟩:=Ad (show i<W.length by omega)
  have IH:=KL (BV hx)
  have ja:=uJ i x wv AA hx jc
  refine zg ?_
  constructor<;>intro gu
  ·
   have ua:i<G.length:=dT gu
   obtain⟨w,hw⟩:=Ad ua
   have XL:=Qx w (BV hw)
   have hxw:x=w.C.length:=aP i x hx w.C.length (by rw[←JV,CE,List.getElem?_map,←CE,hw];rfl)
   obtain⟨k,rfl,hk⟩:=I1 ja.1 (show wv<w.C.length by omega)
   obtain⟨y,hy⟩:=Ad hk
   obtain⟨b1,o1,BF,Fi,_,XF,AHT⟩:=(hG.move (hl.since 0 rfl)).elem hw
   obtain⟨b2,o2,EH,FD,_,GK,F0⟩:=(Q0.move (hl.since 1 rfl)).elem jc
   obtain⟨b3,o3,H3,Is,_,Ix,IE⟩:=(XL.move (hl.since 0 rfl)).elem hy
   refine BC (idx:=[0,1,2,3,4,5,6,7,8,9,10,11,12,13]) rfl AB AB ?_;refine zg ?_;refine MX JU hl rfl rfl rfl rfl rfl Tryz.underlying38 rfl (c:=ic y) AB ?_;intro B90 GB ATH jL hl;refine nL hl Nd rfl rfl rfl rfl rfl rfl rfl Tryz.underlying38 Tryz.underlying38 rfl rfl (by decide) AB (Cj (n:=1) (cap:=1) (new:=ic y) jL rfl) rfl rfl AB (by show D.length+1≤Ae;unfold Ae;omega) ?_;intro v91 f3 Km Ej hl
   obtain⟨a3,rfl⟩:=Ej.is
   have Ej:=lz Ej
   have e3:D.length+1=(D++[y]).length:=(A8 ..).symm
   rw[e3]
   refine⟨zt,?_⟩
   refine zg ?_
   exact⟨K.length-(i+1),AA,i+1,a3,_,f3,a2,_,f2,AA,rfl,by rw[←e3];omega,AA,Ej,Ei,sE,hl⟩
  have ua:G.length≤i:=dF gu
  obtain⟨b2,o2,EH,FD,_,GK,F0⟩:=(Q0.move (hl.since 1 rfl)).elem jc
  refine zg ?_;refine dL hl (ic (1+wv)) Tryz.underlying38 fun B98 GB AHM hl=>?_
  have hl:AE S' [S8,S'] GB (([]++f1)++(f2++[])) []:=hl
  refine VC hl Ei rfl rfl rfl rfl rfl rfl rfl Tryz.underlying38 Tryz.underlying38 rfl rfl (by decide) AB (Cj (n:=1) (cap:=1) (new:=ic (1+wv)) AHM rfl) rfl rfl AB (by show Y.length+1≤Ae;unfold Ae;omega) ?_;intro v99 f4 Km JW hl
  obtain⟨a4,rfl⟩:=JW.is
  have JW:=lz JW
  have e4:Y.length+1=(Y++[1+wv]).length:=(A8 ..).symm
  rw[e4]
  refine zg ?_
  exact⟨K.length-(i+1),AA,i+1,a1,_,f1,a4,_,f4,AA,rfl,AA,by rw[←e4];omega,Nd,JW,sE,hl⟩
 have DH:i=K.length:=dF Wk
 subst DH
 refine zg ?_
 have LA:=OW.at_ (f:=ic) (fun _=>rfl) Nd hl Jg
 have CY:=OW.at_ (f:=ic) (fun _=>rfl) Ei hl (fun p hp=>List.mem_append.2 (.inr (List.mem_append.2 (.inr (List.mem_append.2 (.inl hp))))))
 exact BA (BD rfl (BD rfl (BD rfl rfl))) ⟨Hj.trans hl.AD,.inr ⟨a1,D,a2,Y,rfl,LA,CY,AA,AA⟩⟩
end Go.Proofs.YtmfphenhpkgidaaGreatDoor
namespace Go.Proofs.YtmfphenhpkgidaaGreatDoor
open Go.Cm Go
set_option maxRecDepth 100000
variable{S:St}
theorem jB{S0 S:St}{Ts:List St}{l:List (Nat×AF)}{gs:List Gr}(h:AE S0 Ts S l gs):AE S0 Ts S l []:=⟨h.AD,h.nd,h.at_,h.rk,fun _ hg=>(List.not_mem_nil hg).elim⟩
theorem YQ(a:Option Addr)(cap:Nat)(P:List Int)(b:Option Addr)(cb:Nat)(Q:List Int)(hp:P.length≤100000)(hq:Q.length≤100000)(hP:CZ S (.slice a P.length cap) P)(hQ:CZ S (.slice b Q.length cb) Q):CC Tryz.prog KK 147 [.slice a P.length cap,.slice b Q.length cb] S (fun v S'=>AL S S'∧(∃av,v= .slice av (P++Q).length (P++Q).length∧CZ S' (.slice av (P++Q).length (P++Q).length) (P++Q))):=by
 refine ce 10 Tryz.func147 fun hl=>?_;refine zg ?_;refine mn hl 1 rfl rfl rfl rfl rfl Tryz.underlying38 rfl (c:=[]) AB rfl ?_;intro v5 S1 hl;refine zg ?_;refine DZ hl 0 rfl rfl (by simp) rfl rfl rfl rfl rfl rfl rfl Tryz.underlying38 Tryz.underlying38 rfl rfl AB (hP.move (hl.since 0 rfl)).cells (HF (f:=ic) (z:=1) (fun _=>rfl) _) (Zt (f:=ic) (fun _=>rfl) _) AB (by show 0+P.length≤Ae;unfold Ae;omega) ?_;intro v7 S2 hl
 have hl:AE S [S] S2 [] [⟨v7,3,1,[]++(P.map ic).flatten,0+P.length⟩]:=hl
 refine zg ?_;refine DZ hl 0 rfl rfl (by simp) rfl rfl rfl rfl rfl rfl rfl Tryz.underlying38 Tryz.underlying38 rfl rfl AB (hQ.move (hl.since 0 rfl)).cells (HF (f:=ic) (z:=1) (fun _=>rfl) _) (Zt (f:=ic) (fun _=>rfl) _) AB (by show 0+P.length+Q.length≤Ae;unfold Ae;omega) ?_;intro v9 S3 hl
 obtain⟨av,rfl⟩:∃x,v9= .slice x (0+P.length+Q.length) (0+P.length+Q.length):=Am.C5 (hl.gr _ Al)
 have hg:=hl.gr _ Al
 have e1:0+P.length+Q.length=(P++Q).length:=by rw[DS,Nat.zero_add]
 have e2:[]++(P.map ic).flatten++(Q.map ic).flatten=((P++Q).map ic).flatten:=by rw[Hm,List.flatten_append,List.nil_append]
 rw[e1,e2]at hg
 rw[e1]
 refine zg ?_
 exact y1 rfl ⟨hl.AD,av,rfl,Am.ls (f:=ic) (fun _=>rfl) hg⟩
theorem ANo(a:Option Addr)(cap:Nat)(C:List It)(hn:C.length≤1000)(hv:Gu S (.slice a C.length cap) C):CC Tryz.prog KK 148 [.slice a C.length cap] S (fun v S'=>AL S S'∧(∃av K,v= .slice av K.length K.length∧eZ S' (.slice av K.length K.length) K)):=by
 refine ce 20 Tryz.func148 fun hl=>?_;iterate 2 refine zS ?_
 refine AG rfl ?_;refine zS ?_;refine Az rfl ?_
 have hl:=hl.D2 (g:=gT none []) (.inl ⟨rfl,rfl,rfl⟩)
 refine AK (L':=[(4,.int .i64 0),(3,.slice none 0 0),(2,.slice none 0 0),(0,.slice a C.length cap)]) sE ?_
 refine A2 rfl (fun m Le S'=>∃(i:Nat) (av:Option Addr) (O:List Ti),i≤C.length∧m=C.length-i∧O.length=i∧Af [(4,.int .i64 (i:Int)),(3,.slice av O.length O.length),(2,.slice none 0 0),(0,.slice a C.length cap)] Le∧AE S [S] S' [] [gT av O]) ?_ (m:=C.length) ⟨0,none,[],AA,AA,rfl,sE,hl⟩
 clear hl;rintro m Le S' ⟨i,av,O,hi,rfl,hO,AH,hl⟩;refine AK AH ?_
 refine zg ?_
 constructor<;>intro h8
 ·
  have AN:i<C.length:=dT h8
  obtain⟨x,hx⟩:=Ad AN
  obtain⟨b1,o1,BF,ha,_,AQ,Aa⟩:=hv.elem hx
  refine zg ?_;refine dL hl x.du.cells Tryz.underlying91 fun OS S7 AGy hl=>?_;refine DZ hl 0 rfl rfl (by simp) rfl rfl rfl rfl rfl rfl rfl Tryz.underlying91 Tryz.underlying91 rfl rfl AB (Cj (n:=1) (cap:=1) AGy rfl) rfl rfl AB (by show O.length+1≤Ae;unfold Ae;omega) ?_;intro v18 S8 hl
  obtain⟨As,rfl⟩:∃x,v18= .slice x (O.length+1) (O.length+1):=Am.C5 (hl.gr _ Al)
  have hl:AE S [S] S8 _ [gT As (O++[x.du])]:=tY hl
  refine zg ?_
  exact⟨C.length-(i+1),AA,i+1,As,_,AA,rfl,by rw[A8];omega,⟨rfl,by rw[A8];rfl,rfl,rfl,trivial⟩,hl⟩
 refine zg ?_
 exact y1 rfl ⟨hl.AD,av,O,rfl,Am.ls (f:=Ti.cells) (fun _=>rfl) (hl.gr _ Al)⟩
theorem ANk(p q r t:Int)(a:Option Addr)(cap:Nat)(C:List Sg)(hn:C.length≤1000)(hF:BW S)(hv:CW S (.slice a C.length cap) C):CC Tryz.prog KK 142 [EY p q r t,.slice a C.length cap] S (fun v S'=>AL S S'∧(p7 p q r t C v)):=by
 refine ce 11 Tryz.func142 fun hl=>?_;refine zg ?_;refine bL hl fun B2 S2 hl=>?_;refine zg ?_
 refine zc hl rfl (AAI p q r t a cap C hn (hl.AD.3 hF) (hv.move (hl.since 0 rfl))) ?_;rintro v S1 AM hR hl
 obtain⟨c,e,rfl⟩:∃c e:Int,v=Aw [.int .i64 c,.int .i64 e]:=by
  rcases hR with ⟨c,e,_,rfl⟩|⟨_,c,e,_,_,_,rfl⟩<;>exact⟨_,_,rfl⟩
 refine zg ?_
 exact y2 rfl rfl ⟨hl.AD,hR⟩
structure Pt where
 aL:Option Addr
 cL:Nat
 aC:Option Addr
 cC:Nat
 aD:Option Addr
 cD:Nat
 L:List It
 C:List Int
 D:List Int
def Pt.cells(x:Pt):List Value:=[.slice x.aL x.L.length x.cL,.slice x.aC x.C.length x.cC,.slice x.aD x.D.length x.cD]
structure Pt.Ok(S:St)(x:Pt):Prop where
 l:Gu S (.slice x.aL x.L.length x.cL) x.L
 c:CZ S (.slice x.aC x.C.length x.cC) x.C
 d:CZ S (.slice x.aD x.D.length x.cD) x.D
theorem Pt.Ok.move{S T:St}{x:Pt}(h:x.Ok S)(hk:RK S T):x.Ok T:=⟨A0.move hk h.l,A0.move hk h.c,A0.move hk h.d⟩
abbrev Vw:=A0 212 3 Pt.cells
abbrev gP(av:Option Addr)(D:List Pt):Gr:=Hc 212 3 Pt.cells (.slice av D.length D.length) D
theorem gg{Ts:List St}{S0 S1:St}{l:List (Nat×AF)}{av:Option Addr}{D:List Pt}{x:Pt}(h:AE S0 Ts S1 l [⟨.slice av (D.length+1) (D.length+1),212,3,(D.map Pt.cells).flatten++x.cells,D.length+1⟩]):AE S0 Ts S1 l [gP av (D++[x])]:=by
 unfold gP
 rw[Im]
 exact h
structure JJ(S:St)(n k:Nat)(x:Pt):Prop where
 o:x.Ok S
 l:x.L.length≤1000
 c:x.C.length=n
 d:x.D.length≤k
theorem JJ.move{S T:St}{n k:Nat}{x:Pt}(h:JJ S n k x)(hk:RK S T):JJ T n k x:=⟨h.o.move hk,h.l,h.c,h.d⟩
end Go.Proofs.YtmfphenhpkgidaaGreatDoor
namespace Go.Proofs.YtmfphenhpkgidaaGreatDoor
open Go.Cm Go
set_option maxRecDepth 100000
variable{S:St}
set_option maxHeartbeats 4000000 in
theorem ANx(p q r t k:Int)(a:Option Addr)(cap:Nat)(C:List It)(ap:Option Addr)(cp:Nat)(P:List Int)(hk: -50≤k∧k≤50)(hn:C.length≤1000)(hp:P.length≤2001)(hF:BW S)(hv:Gu S (.slice a C.length cap) C)(hP:CZ S (.slice ap P.length cp) P):CC Tryz.prog KK 185 [EY p q r t,.int .i64 k,.slice a C.length cap,.slice ap P.length cp] S (fun v S'=>AL S S'∧(∃av D e,v=Aw [.slice av D.length D.length,.int .i64 e]∧CZ S' (.slice av D.length D.length) D∧D.length≤2)):=by
 refine ce 46 Tryz.func185 fun hl=>?_;refine zg ?_;refine bL hl fun B4 S2 hl=>?_
 have hP:=hP.move (hl.since 0 rfl)
 have GJ:=hl
 have hl:=hl.mark
 refine zg ?_
 refine zc hl rfl (AAQ p q r t k a cap C hk hn (hl.AD.3 hF) (hv.move (hl.since 1 rfl))) ?_;rintro v S1 AM hR hl
 rcases hR with ⟨_,e,he,rfl⟩|⟨Sm,B,x,rfl,Hj,Dc,uA,UG,hold,BL⟩
 ·
  refine zg ?_
  constructor<;>intro Bf
  ·
   refine zg ?_
   exact(z2 rfl rfl ⟨hl.AD,none,[],e,rfl,A0.nil,Nat.zero_le _⟩)
  exact absurd (by simpa using Bf) he
 have hP:=hP.move Hj.rk
 have Nj:AL S Sm:=(GJ.AD).trans Hj
 have JU:=Nj.3 hF
 have Ja:=Dc.g
 clear hl
 obtain⟨fN,fM,hN,hM,hl⟩:=BL
 refine zg ?_
 constructor<;>intro CJ
 ·
  refine zg ?_
  exact(z2 rfl rfl ⟨Nj.trans hl.AD,none,[],_,rfl,A0.nil,Nat.zero_le _⟩)
 have uF:P.length<x.G.length:=dF CJ
 refine zg ?_;refine AK (L':=[(12,.int .i64 0),(10,ptrTo B 0),(9,.int .i64 0),(8,.slice none 0 0),(3,.slice ap P.length cp)]) sE ?_
 refine A2 rfl (fun m Le S'=>∃(i:Nat) (y:D8),i≤P.length∧m=P.length-i∧y.M.length=i∧y.L=x.L∧y.G=x.G∧y.Fit∧y.Old Sm∧Kp Sm S' B y∧Af [(12,.int .i64 (i:Int)),(10,ptrTo B 0),(9,.int .i64 0),(8,.slice none 0 0),(3,.slice ap P.length cp)] Le) ?_ (m:=P.length) ⟨0,x,AA,AA,by rw[UG];rfl,rfl,rfl,Dc,hold,⟨fN,fM,hN,hM,hl⟩,sE⟩
 clear hl hN hM Dc hold;rintro m Le S' ⟨i,y,hi,rfl,aj,ah,Uf,Dc,hold,BL,AH⟩;refine AK AH ?_
 have UZ:=BL
 obtain⟨fN,fM,hN,hM,hl⟩:=BL
 refine zg ?_
 constructor<;>intro E2
 ·
  have AN:i<P.length:=dT E2
  obtain⟨c,hc⟩:=Ad AN
  obtain⟨b1,o1,BF,ha,_,AQ,Aa⟩:=hP.elem hc
  refine zg ?_
  refine D5 rfl rfl rfl rfl rfl rfl rfl (C8 (AAR B y c (by rw[aj,Uf];omega) JU Dc hold UZ) ?_);rintro v S3 ⟨R,z,rfl,BL,UP,jC,ji,jh,RU⟩
  refine rr rfl (BY rfl rfl rfl) ?_;refine zg ?_
  constructor<;>intro FB
  ·
   refine zg ?_
   exact AR (Ai (Bg (AR ((z2 rfl rfl ⟨Nj.trans BL.AD,none,[],_,rfl,A0.nil,Nat.zero_le _⟩)))))
  have hR:R=true:=by simpa using FB
  rw[hR]at RU
  have RU:z.M.length=y.M.length+1:=RU
  refine zg ?_
  exact⟨P.length-(i+1),AA,i+1,z,AA,rfl,AA,ji.trans ah,jh.trans Uf,UP,jC,BL,sE⟩
 have DH:i=P.length:=dF E2
 refine zg ?_
 refine zc hl rfl (AAS B y (by rw[aj,Uf];omega) (hl.AD.3 JU) UZ.at_ Dc (UZ.ok hold)) ?_;rintro v S3 Cn ⟨av,D,rfl,hD,MC,_⟩ hl
 refine zg ?_
 exact y2 rfl rfl ⟨Nj.trans hl.AD,av,D,_,rfl,hD,MC⟩
set_option maxHeartbeats 4000000 in
theorem ANy(p q r t k:Int)(a:Option Addr)(cap:Nat)(C:List It)(ap:Option Addr)(cp:Nat)(P:List Int)(hk: -50≤k∧k≤50)(hn:C.length≤1000)(_:P.length≤2001)(hF:BW S)(hv:Gu S (.slice a C.length cap) C)(hP:CZ S (.slice ap P.length cp) P):CC Tryz.prog KK 186 [EY p q r t,.int .i64 k,.slice a C.length cap,.slice ap P.length cp] S (fun v S'=>AL S S'∧(∃av D e,v=Aw [.slice av D.length D.length,.int .i64 e]∧Gu S' (.slice av D.length D.length) D∧(D.length=C.length∨D.length=0))):=by
 refine ce 48 Tryz.func186 fun hl=>?_;refine zg ?_;refine bL hl fun B4 S2 hl=>?_
 have hP:=hP.move (hl.since 0 rfl)
 have GJ:=hl
 have hl:=hl.mark
 refine zg ?_
 refine zc hl rfl (AAQ p q r t k a cap C hk hn (hl.AD.3 hF) (hv.move (hl.since 1 rfl))) ?_;rintro v S1 AM hR hl
 rcases hR with ⟨_,e,he,rfl⟩|⟨Sm,B,x,rfl,Hj,Dc,uA,UG,hold,BL⟩
 ·
  refine zg ?_
  constructor<;>intro Bf
  ·
   refine zg ?_
   exact(z2 rfl rfl ⟨hl.AD,none,[],e,rfl,A0.nil,.inr rfl⟩)
  exact absurd (by simpa using Bf) he
 have hP:=hP.move Hj.rk
 have Nj:AL S Sm:=(GJ.AD).trans Hj
 have JU:=Nj.3 hF
 have Ja:=Dc.g
 clear hl
 obtain⟨fN,fM,hN,hM,hl⟩:=BL
 refine zg ?_
 constructor<;>intro CJ
 ·
  refine zg ?_
  exact(z2 rfl rfl ⟨Nj.trans hl.AD,none,[],_,rfl,A0.nil,.inr rfl⟩)
 have uF:P.length=x.G.length:=by have h:(P.length:Int)=x.G.length:=by simpa using CJ
                                 omega
 refine zg ?_;refine AK (L':=[(12,.int .i64 0),(10,ptrTo B 0),(9,.int .i64 0),(8,.slice none 0 0),(3,.slice ap P.length cp)]) sE ?_
 refine A2 rfl (fun m Le S'=>∃(i:Nat) (y:D8),i≤P.length∧m=P.length-i∧y.M.length=i∧y.L=x.L∧y.G=x.G∧y.Fit∧y.Old Sm∧Kp Sm S' B y∧Af [(12,.int .i64 (i:Int)),(10,ptrTo B 0),(9,.int .i64 0),(8,.slice none 0 0),(3,.slice ap P.length cp)] Le) ?_ (m:=P.length) ⟨0,x,AA,AA,by rw[UG];rfl,rfl,rfl,Dc,hold,⟨fN,fM,hN,hM,hl⟩,sE⟩
 clear hl hN hM Dc hold;rintro m Le S' ⟨i,y,hi,rfl,aj,ah,Uf,Dc,hold,BL,AH⟩;refine AK AH ?_
 have UZ:=BL
 obtain⟨fN,fM,hN,hM,hl⟩:=BL
 refine zg ?_
 constructor<;>intro E2
 ·
  have AN:i<P.length:=dT E2
  obtain⟨c,hc⟩:=Ad AN
  obtain⟨b1,o1,BF,ha,_,AQ,Aa⟩:=hP.elem hc
  refine zg ?_
  refine D5 rfl rfl rfl rfl rfl rfl rfl (C8 (AAR B y c (by rw[aj,Uf];omega) JU Dc hold UZ) ?_);rintro v S3 ⟨R,z,rfl,BL,UP,jC,ji,jh,RU⟩
  refine rr rfl (BY rfl rfl rfl) ?_;refine zg ?_
  constructor<;>intro FB
  ·
   refine zg ?_
   exact AR (Ai (Bg (AR ((z2 rfl rfl ⟨Nj.trans BL.AD,none,[],_,rfl,A0.nil,.inr rfl⟩)))))
  have hR:R=true:=by simpa using FB
  rw[hR]at RU
  have RU:z.M.length=y.M.length+1:=RU
  refine zg ?_
  exact⟨P.length-(i+1),AA,i+1,z,AA,rfl,AA,ji.trans ah,jh.trans Uf,UP,jC,BL,sE⟩
 have DH:i=P.length:=dF E2
 refine zg ?_
 exact y2 rfl rfl ⟨Nj.trans hl.AD,y.an,y.N,_,rfl,(UZ.ok hold).n,.inl (by rw[Dc.n,ah,uA])⟩
end Go.Proofs.YtmfphenhpkgidaaGreatDoor
namespace Go.Proofs.YtmfphenhpkgidaaGreatDoor
open Go.Cm Go
set_option maxRecDepth 100000
variable{S:St}
def ABi(S':St)(kd:Nat)(v:Value):Prop:=(∃e:Int,e≠0∧v=Aw [.slice none 0 0,.int .i64 e])∨∃av Y,v=Aw [.slice av Y.length Y.length,.int .i64 0]∧Vw S' (.slice av Y.length Y.length) Y∧Y.length≤4096∧∀y,y∈Y→JJ S' 0 (kd+2001) y
set_option maxHeartbeats 4000000 in
theorem ANn(p q r t k:Int)(a:Option Addr)(cap:Nat)(X:List Pt)(kd:Nat)(hk: -50≤k∧k≤50)(hn:X.length≤4096)(hkd:kd≤10000)(hF:BW S)(hv:Vw S (.slice a X.length cap) X)(hX:∀x,x∈X→JJ S x.C.length kd x):CC Tryz.prog KK 146 [EY p q r t,.int .i64 k,.slice a X.length cap] S (fun v S'=>AL S S'∧(ABi S' kd v)):=by
 refine ce 159 Tryz.func146 fun hl=>?_;refine zg ?_;refine bL hl fun B3 S3 hl=>?_;refine zA ?_;iterate 2 refine zS ?_
 refine AG rfl ?_;refine zS ?_;refine Az rfl ?_
 have hl:=hl.D2 (g:=gP none []) (.inl ⟨rfl,rfl,rfl⟩)
 refine AK (L':=[(10,.int .i64 0),(9,.int .i64 0),(8,.slice none 0 0),(7,.int .i64 0),(6,.slice none 0 0),(3,ptrTo B3 0),(1,.int .i64 k),(2,.slice a X.length cap)]) sE ?_
 refine A2 rfl (fun m Le S'=>∃(i N:Nat) (av:Option Addr) (H:List Pt),i≤X.length∧m=X.length-i∧N≤2001∧H.length≤i∧(∀x,x∈H→JJ S' 0 kd x)∧Af [(10,.int .i64 (i:Int)),(9,.int .i64 (N:Int)),(8,.slice av H.length H.length),(7,.int .i64 0),(6,.slice none 0 0),(3,ptrTo B3 0),(1,.int .i64 k),(2,.slice a X.length cap)] Le∧AE S [S] S' [(B3,.cells [.int .i64 p,.int .i64 q,.int .i64 r,.int .i64 t] 51 false true [])] [gP av H]) ?_ (m:=X.length) ⟨0,0,none,[],AA,AA,AA,by simp,fun x hx=>(List.not_mem_nil hx).elim,sE,hl⟩
 clear hl;rintro m Le S' ⟨i,N,av,H,hi,rfl,hN,hHl,hH,AH,hl⟩;refine AK AH ?_
 refine zg ?_
 constructor<;>intro C3
 ·
  have AN:i<X.length:=dT C3
  obtain⟨x,hx⟩:=Ad AN
  have Cu:=hX x (BV hx)
  obtain⟨b1,o1,BF,ha,_,AQ,Aa⟩:=hv.elem hx
  have hl:=hl.mark
  refine zg ?_;refine BC (idx:=[0,1,2,3,4,5,6,7,8,9,10,11,12]) rfl AB AB ?_;refine zg ?_
  refine zp hl rfl (AAK p q r t k x.aL x.cL x.L hk Cu.l (hl.AD.3 hF) (Cu.o.l.move (hl.since 1 rfl))) ?_;rintro v S1 AM hR hl;refine⟨zt,?_⟩
  rcases hR with ⟨e,he,rfl⟩|⟨ag,G,rfl,hG,Wm,Qx⟩
  ·
   refine zg ?_
   constructor<;>intro FT
   ·exact absurd (by simpa using FT) he
   refine zg ?_
   exact⟨X.length-(i+1),AA,i+1,N,av,H,AA,rfl,hN,AA,fun y hy=>(hH y hy).move (hl.since 0 rfl),sE,hl.marks (Us:=[S]) (fun T hT=>BQ hT)⟩
  refine zg ?_;refine BC (idx:=[0,1,2,3,4,5,6,7,8,9,10,11,12,13,14]) rfl AB AB ?_;refine zg ?_
  obtain⟨y,hy⟩:∃y:Pt,y=⟨x.aL,x.cL,none,0,x.aD,x.cD,x.L,[],x.D⟩:=⟨_,rfl⟩
  have FI:[Value.slice x.aL x.L.length x.cL,.slice none 0 0,.slice x.aD x.D.length x.cD]=y.cells:=by rw[hy];rfl
  refine pr rfl (A9 rfl rfl (v:=AX y.cells) (by rw[←FI];rfl)) ?_;refine MX hF hl rfl rfl rfl rfl rfl Tryz.underlying213 rfl (c:=y.cells) (by rw[←FI];kernel_rfl) ?_;intro B54 S4 ATG AHE hl
  refine VG hl 0 rfl rfl (by simp) rfl rfl rfl rfl rfl rfl rfl Tryz.underlying213 Tryz.underlying213 rfl rfl AB (Cj (n:=1) (cap:=1) (new:=y.cells) AHE rfl) rfl rfl AB (by show H.length+1≤Ae;unfold Ae;omega) ?_;intro v55 S5 hl;refine⟨zt,?_⟩
  obtain⟨As,rfl⟩:∃x,v55= .slice x (H.length+1) (H.length+1):=Am.C5 (hl.gr _ Al)
  have hl:AE S [S',S] S5 _ [gP As (H++[y])]:=gg hl
  refine zg ?_
  refine⟨X.length-(i+1),AA,i+1,G.length,As,H++[y],AA,rfl,by have:=Cu.l;omega,by rw[A8];omega,fun z hz=>?_,⟨rfl,rfl,by rw[A8];rfl,rfl,rfl,rfl,rfl,rfl,trivial⟩,hl.marks (Us:=[S]) (fun T hT=>BQ hT)⟩
  rcases List.mem_append.1 hz with h|h
  ·exact(hH z h).move (hl.since 0 rfl)
  rw[List.mem_singleton.1 h,hy]
  exact⟨⟨Cu.o.l.move (hl.since 1 rfl),A0.nil,Cu.o.d.move (hl.since 1 rfl)⟩,Cu.l,rfl,Cu.d⟩
 have hP:=Am.ls (f:=Pt.cells) (fun _=>rfl) (hl.gr _ Al)
 have iC:H.length≤4096:=by omega
 have hl:=jB hl
 clear hHl hi AH
 refine HB rfl ?_;refine AG rfl ?_;refine zS ?_;refine Az rfl ?_;refine AK (L':=[(13,.int .i64 0),(9,.int .i64 (N:Int)),(8,.slice av H.length H.length),(7,.int .i64 0),(6,.slice none 0 0),(3,ptrTo B3 0),(1,.int .i64 k)]) sE ?_
 refine A2 rfl (fun m Le S'=>∃(n:Nat) (av:Option Addr) (H:List Pt),n≤N∧m=N-n∧H.length≤4096∧(∀x,x∈H→JJ S' n kd x)∧Vw S' (.slice av H.length H.length) H∧Af [(13,.int .i64 (n:Int)),(9,.int .i64 (N:Int)),(8,.slice av H.length H.length),(7,.int .i64 0),(6,.slice none 0 0),(3,ptrTo B3 0),(1,.int .i64 k)] Le∧AE S [S] S' [(B3,.cells [.int .i64 p,.int .i64 q,.int .i64 r,.int .i64 t] 51 false true [])] []) ?_ (m:=N) ⟨0,av,H,AA,AA,iC,hH,hP,sE,hl⟩
 clear hl hH hP iC;rintro m Le S1 ⟨n,av,H,hi,rfl,iC,hH,hP,AH,hl⟩;refine AK AH ?_
 refine zg ?_
 constructor<;>intro Oz
 ·
  have AN:n<N:=dT Oz
  have hl:=hl.mark
  refine Ar rfl ?_;refine AG rfl ?_;refine Az rfl ?_;refine zS ?_;refine AG rfl ?_;refine zS ?_;refine Az rfl ?_
  have hl:=hl.D2 (g:=gP none []) (.inl ⟨rfl,rfl,rfl⟩)
  refine AK (L':=[(15,.int .i64 0),(14,.slice none 0 0),(13,.int .i64 (n:Int)),(9,.int .i64 (N:Int)),(8,.slice av H.length H.length),(7,.int .i64 0),(6,.slice none 0 0),(3,ptrTo B3 0),(1,.int .i64 k)]) sE ?_
  refine A2 rfl (fun m Le S'=>∃(i:Nat) (ao:Option Addr) (O:List Pt),i≤H.length∧m=H.length-i∧O.length≤2*i∧(∀x,x∈O→JJ S' (n+1) kd x)∧Af [(15,.int .i64 (i:Int)),(14,.slice ao O.length O.length),(13,.int .i64 (n:Int)),(9,.int .i64 (N:Int)),(8,.slice av H.length H.length),(7,.int .i64 0),(6,.slice none 0 0),(3,ptrTo B3 0),(1,.int .i64 k)] Le∧AE S [S1,S] S' [(B3,.cells [.int .i64 p,.int .i64 q,.int .i64 r,.int .i64 t] 51 false true [])] [gP ao O]) ?_ (m:=H.length) ⟨0,none,[],AA,AA,by simp,fun x hx=>(List.not_mem_nil hx).elim,sE,hl⟩
  clear hl;rintro m Le S' ⟨i,ao,O,DH,rfl,He,hO,AH,hl⟩;refine AK AH ?_
  refine zg ?_
  constructor<;>intro JS
  ·
   have G3:i<H.length:=dT JS
   obtain⟨x,hx⟩:=Ad G3
   have Cu:=hH x (BV hx)
   have hl:=hl.mark
   obtain⟨b1,o1,BF,ha,_,AQ,Aa⟩:=(hP.move (hl.since 1 rfl)).elem hx
   refine zg ?_;refine BC (idx:=[0,1,2,3,4,5,6,7,8,9,10,11,12,13,14,15,16,17]) rfl AB AB ?_;refine zg ?_
   refine zp hl rfl (ANx p q r t k x.aL x.cL x.L x.aC x.cC x.C hk Cu.l (by rw[Cu.c];omega) (hl.AD.3 hF) (Cu.o.l.move (hl.since 1 rfl)) (Cu.o.c.move (hl.since 1 rfl))) ?_;rintro v S2 ED ⟨ac,D,e,rfl,hD,UF⟩ hl;refine⟨zt,?_⟩
   have hO:=fun y hy=>(hO y hy).move (hl.since 0 rfl)
   have hl:AE S [S2,S1,S] S2 _ [gP ao O]:=hl.mark.marks (fun T hT=>by
    rcases List.mem_cons.1 hT with h|h
    ·exact List.mem_cons.2 (.inl h)
    exact BQ (BQ h))
   clear ha AQ Aa
   refine zA ?_;refine zS ?_;refine Az rfl ?_;refine AK (L':=[(18,.int .i64 0),(16,.slice ac D.length D.length),(15,.int .i64 (i:Int)),(14,.slice ao O.length O.length),(13,.int .i64 (n:Int)),(9,.int .i64 (N:Int)),(8,.slice av H.length H.length),(7,.int .i64 0),(6,.slice none 0 0),(3,ptrTo B3 0),(1,.int .i64 k)]) sE ?_
   refine A2 rfl (fun m Le S'=>∃(j:Nat) (ao:Option Addr) (O:List Pt),j≤D.length∧m=D.length-j∧O.length≤2*i+j∧(∀x,x∈O→JJ S' (n+1) kd x)∧Af [(18,.int .i64 (j:Int)),(16,.slice ac D.length D.length),(15,.int .i64 (i:Int)),(14,.slice ao O.length O.length),(13,.int .i64 (n:Int)),(9,.int .i64 (N:Int)),(8,.slice av H.length H.length),(7,.int .i64 0),(6,.slice none 0 0),(3,ptrTo B3 0),(1,.int .i64 k)] Le∧AE S [S2,S1,S] S' [(B3,.cells [.int .i64 p,.int .i64 q,.int .i64 r,.int .i64 t] 51 false true [])] [gP ao O]) ?_ (m:=D.length) ⟨0,ao,O,AA,AA,AA,hO,sE,hl⟩
   clear hl hO He AH;rintro m Le S' ⟨j,ao,O,hj,rfl,He,hO,AH,hl⟩;refine AK AH ?_
   refine zg ?_
   constructor<;>intro O2
   ·
    have aO:j<D.length:=dT O2
    obtain⟨c,hc⟩:=Ad aO
    have hl:=hl.mark
    obtain⟨b1,o1,BF,ha,_,AQ,Aa⟩:=(hP.move (hl.since 2 rfl)).elem hx
    obtain⟨b2,o2,EH,FD,_,GK,F0⟩:=(hD.move (hl.since 1 rfl)).elem hc
    refine zg ?_;refine BC (idx:=[0,1,2,3,4,5,6,7,8,9,10,11,12,13,14,15,17,18,19,20,21,16,22,23,24,25]) rfl AB AB ?_;refine zg ?_;refine MX hF hl rfl rfl rfl rfl rfl Tryz.underlying38 rfl (c:=ic c) AB ?_;intro ABX S4 ATD AGr hl;refine zg ?_
    refine zp hl rfl (YQ x.aC x.cC x.C (some ⟨ABX,0,none⟩) 1 [c] (by rw[Cu.c];omega) (by show 1≤100000;omega) (Cu.o.c.move (hl.since 2 rfl)) (A0.row (f:=ic) (C:=[c]) (fun _=>rfl) AGr rfl)) ?_;rintro v S5 W0 ⟨aw,rfl,hW⟩ hl;refine⟨zt,?_⟩
    have hl:=hl.mark
    obtain⟨y,hy⟩:∃y:Pt,y=⟨x.aL,x.cL,aw,(x.C++[c]).length,x.aD,x.cD,x.L,x.C++[c],x.D⟩:=⟨_,rfl⟩
    have FI:[Value.slice x.aL x.L.length x.cL,.slice aw (x.C++[c]).length (x.C++[c]).length,.slice x.aD x.D.length x.cD]=y.cells:=by rw[hy];rfl
    refine pr rfl (A9 rfl rfl (v:=AX y.cells) (by rw[←FI];rfl)) ?_;refine MX hF hl rfl rfl rfl rfl rfl Tryz.underlying213 rfl (c:=y.cells) (by rw[←FI];kernel_rfl) ?_;intro AS3 S6 ATE AGu hl
    refine VG hl 0 rfl rfl (by simp) rfl rfl rfl rfl rfl rfl rfl Tryz.underlying213 Tryz.underlying213 rfl rfl AB (Cj (n:=1) (cap:=1) (new:=y.cells) AGu rfl) rfl rfl AB (by show O.length+1≤Ae;unfold Ae;omega) ?_;intro AST S7 hl;refine⟨zt,?_⟩
    obtain⟨Ig,rfl⟩:∃x,AST= .slice x (O.length+1) (O.length+1):=Am.C5 (hl.gr _ Al)
    have hl:AE S [S5,S',S2,S1,S] S7 _ [gP Ig (O++[y])]:=gg hl
    refine zg ?_
    refine⟨D.length-(j+1),AA,j+1,Ig,O++[y],AA,rfl,by rw[A8];omega,fun z hz=>?_,⟨rfl,rfl,rfl,by rw[A8 O y];rfl,rfl,rfl,rfl,rfl,rfl,rfl,rfl,trivial⟩,hl.marks (Us:=[S2,S1,S]) (fun T hT=>BQ (BQ hT))⟩
    rcases List.mem_append.1 hz with h|h
    ·exact(hO z h).move (hl.since 1 rfl)
    rw[List.mem_singleton.1 h,hy]
    exact⟨⟨Cu.o.l.move (hl.since 3 rfl),hW.move (hl.since 0 rfl),Cu.o.d.move (hl.since 3 rfl)⟩,Cu.l,by rw[A8,Cu.c],Cu.d⟩
   refine zg ?_
   exact⟨H.length-(i+1),AA,i+1,ao,O,AA,rfl,AA,hO,sE,hl.marks (Us:=[S1,S]) (fun T hT=>BQ hT)⟩
  refine zg ?_
  constructor<;>intro Qq
  ·
   refine zg ?_
   exact Ai (AR (Ai (Bg (AR ((z2 rfl rfl ⟨hl.AD,.inl ⟨_,by decide,rfl⟩⟩))))))
  have iE:O.length≤4096:=dF Qq
  refine zg ?_
  exact⟨N-(n+1),AA,n+1,ao,O,AA,rfl,iE,hO,Am.ls (f:=Pt.cells) (fun _=>rfl) (hl.gr _ Al),sE,(jB hl).marks (Us:=[S]) (fun T hT=>BQ hT)⟩
 have hnN:n=N:=dF Oz
 subst hnN
 have hl:=hl.mark
 refine HB rfl ?_;refine zS ?_;refine AG rfl ?_;refine zS ?_;refine Az rfl ?_
 have hl:=hl.D2 (g:=gP none []) (.inl ⟨rfl,rfl,rfl⟩)
 refine AK (L':=[(20,.int .i64 0),(19,.slice none 0 0),(8,.slice av H.length H.length),(7,.int .i64 0),(6,.slice none 0 0),(3,ptrTo B3 0),(1,.int .i64 k)]) sE ?_
 refine A2 rfl (fun m Le S'=>∃(i:Nat) (ao:Option Addr) (O:List Pt),i≤H.length∧m=H.length-i∧O.length=i∧(∀x,x∈O→JJ S' 0 (kd+2001) x)∧Af [(20,.int .i64 (i:Int)),(19,.slice ao O.length O.length),(8,.slice av H.length H.length),(7,.int .i64 0),(6,.slice none 0 0),(3,ptrTo B3 0),(1,.int .i64 k)] Le∧AE S [S1,S] S' [(B3,.cells [.int .i64 p,.int .i64 q,.int .i64 r,.int .i64 t] 51 false true [])] [gP ao O]) ?_ (m:=H.length) ⟨0,none,[],AA,AA,rfl,fun x hx=>(List.not_mem_nil hx).elim,sE,hl⟩
 clear hl;rintro m Le S' ⟨i,ao,O,DH,rfl,He,hO,AH,hl⟩;refine AK AH ?_
 refine zg ?_
 constructor<;>intro tk
 ·
  have G3:i<H.length:=dT tk
  obtain⟨x,hx⟩:=Ad G3
  have Cu:=hH x (BV hx)
  have hl:=hl.mark
  obtain⟨b1,o1,BF,ha,_,AQ,Aa⟩:=(hP.move (hl.since 1 rfl)).elem hx
  refine zg ?_;refine BC (idx:=[0,1,2,3,4,5,6,7,8,9,10,11,12,13,14,15,16,17]) rfl AB AB ?_;refine zg ?_
  refine zp hl rfl (ANy p q r t k x.aL x.cL x.L x.aC x.cC x.C hk Cu.l (by rw[Cu.c];omega) (hl.AD.3 hF) (Cu.o.l.move (hl.since 1 rfl)) (Cu.o.c.move (hl.since 1 rfl))) ?_;rintro v S2 ED ⟨ac,D,e,rfl,hD,UF⟩ hl;refine⟨zt,?_⟩
  have hl:=hl.mark
  clear ha AQ Aa
  obtain⟨b1,o1,BF,ha,_,AQ,Aa⟩:=(hP.move (hl.since 2 rfl)).elem hx
  refine zg ?_;refine BC (idx:=[0,1,2,3,4,5,6,7,8,9,10,11,12,13,14,15,16]) rfl AB AB ?_;refine zg ?_
  refine zp hl rfl (YQ x.aD x.cD x.D x.aC x.cC x.C (by have:=Cu.d;omega) (by rw[Cu.c];omega) (Cu.o.d.move (hl.since 2 rfl)) (Cu.o.c.move (hl.since 2 rfl))) ?_;rintro v S5 W0 ⟨aw,rfl,hW⟩ hl;refine⟨zt,?_⟩
  have hl:=hl.mark
  obtain⟨y,hy⟩:∃y:Pt,y=⟨ac,D.length,none,0,aw,(x.D++x.C).length,D,[],x.D++x.C⟩:=⟨_,rfl⟩
  have FI:[Value.slice ac D.length D.length,.slice none 0 0,.slice aw (x.D++x.C).length (x.D++x.C).length]=y.cells:=by rw[hy];rfl
  refine pr rfl (A9 rfl rfl (v:=AX y.cells) (by rw[←FI];rfl)) ?_;refine MX hF hl rfl rfl rfl rfl rfl Tryz.underlying213 rfl (c:=y.cells) (by rw[←FI];kernel_rfl) ?_;intro AS5 S6 ATF AGw hl
  refine VG hl 0 rfl rfl (by simp) rfl rfl rfl rfl rfl rfl rfl Tryz.underlying213 Tryz.underlying213 rfl rfl AB (Cj (n:=1) (cap:=1) (new:=y.cells) AGw rfl) rfl rfl AB (by show O.length+1≤Ae;unfold Ae;omega) ?_;intro ASV S7 hl;refine⟨zt,?_⟩
  obtain⟨Ig,rfl⟩:∃x,ASV= .slice x (O.length+1) (O.length+1):=Am.C5 (hl.gr _ Al)
  have hl:AE S [S5,S2,S',S1,S] S7 _ [gP Ig (O++[y])]:=gg hl
  refine zg ?_
  refine⟨H.length-(i+1),AA,i+1,Ig,O++[y],AA,rfl,by rw[A8];omega,fun z hz=>?_,⟨rfl,by rw[A8 O y];rfl,rfl,rfl,rfl,rfl,rfl,trivial⟩,hl.marks (Us:=[S1,S]) (fun T hT=>BQ (BQ (BQ hT)))⟩
  rcases List.mem_append.1 hz with h|h
  ·exact(hO z h).move (hl.since 2 rfl)
  rw[List.mem_singleton.1 h,hy]
  exact⟨⟨hD.move (hl.since 1 rfl),A0.nil,hW.move (hl.since 0 rfl)⟩,by have:=Cu.l;show D.length≤1000;omega,rfl,by show(x.D++x.C).length≤_;rw[DS,Cu.c];have:=Cu.d;omega⟩
 have hi3:i=H.length:=dF tk
 subst hi3
 refine zg ?_
 exact y2 rfl rfl ⟨hl.AD,.inr ⟨ao,O,rfl,Am.ls (f:=Pt.cells) (fun _=>rfl) (hl.gr _ Al),AA,hO⟩⟩
end Go.Proofs.YtmfphenhpkgidaaGreatDoor
namespace Go.Proofs.YtmfphenhpkgidaaGreatDoor
open Go.Cm Go
set_option maxRecDepth 100000
variable{S:St}
structure Rq where
 a1:Option Addr
 n1:Nat
 a2:Option Addr
 n2:Nat
 a3:Option Addr
 n3:Nat
 a4:Option Addr
 n4:Nat
def Rq.cells(x:Rq):List Value:=[.slice x.a1 x.n1 x.n1,.slice x.a2 x.n2 x.n2,.slice x.a3 x.n3 x.n3,.slice x.a4 x.n4 x.n4]
abbrev gQ(av:Option Addr)(D:List Rq):Gr:=Hc 118 4 Rq.cells (.slice av D.length D.length) D
theorem AFv{Ts:List St}{S0 S1:St}{l:List (Nat×AF)}{av:Option Addr}{D:List Rq}{x:Rq}(h:AE S0 Ts S1 l [⟨.slice av (D.length+1) (D.length+1),118,4,(D.map Rq.cells).flatten++x.cells,D.length+1⟩]):AE S0 Ts S1 l [gQ av (D++[x])]:=by
 unfold gQ
 rw[Im]
 exact h
def ABW(v:Value):Prop:=(∃e:Int,e≠0∧v=Aw [.slice none 0 0,.int .i64 e])∨∃(av:Option Addr) (n:Nat),v=Aw [.slice av n n,.int .i64 0]∧n≤4096
set_option maxHeartbeats 4000000 in
theorem ANd(p q r t:Int)(a:Option Addr)(cap:Nat)(C:List Sg)(hn:C.length≤1000)(hF:BW S)(hv:CW S (.slice a C.length cap) C):CC Tryz.prog KK 112 [EY p q r t,.slice a C.length cap] S (fun v S'=>AL S S'∧(ABW v)):=by
 refine ce 112 Tryz.func112 fun hl=>?_;refine zg ?_;refine bL hl fun B2 S2 hl=>?_;refine zg ?_
 refine zc hl rfl (ANk p q r t a cap C hn (hl.AD.3 hF) (hv.move (hl.since 0 rfl))) ?_;rintro v S1 AM hR hl
 rcases hR with ⟨c,e,he,rfl⟩|⟨BI,c,e,he,Q6,MG,rfl⟩
 ·
  refine zg ?_
  constructor<;>intro CX
  ·
   refine zg ?_
   exact z2 rfl rfl ⟨hl.AD,.inl ⟨e,he,rfl⟩⟩
  exact absurd (by simpa using CX) he
 refine zg ?_
 constructor<;>intro CX
 ·exact absurd he (by simpa using CX)
 refine zg ?_
 refine zc hl rfl (AAH p q r t) ?_;rintro v S3 Cn hL hl
 obtain⟨al,D,e2,rfl,hD,UF,hDb⟩:∃(al:Option Addr) (D:List Int) (e2:Int),v=Aw [.slice al D.length D.length,.int .i64 e2]∧CZ S3 (.slice al D.length D.length) D∧D.length≤4∧∀x,x∈D→1≤x∧x≤4:=by
  rcases hL with ⟨e2,_,rfl⟩|⟨al,D,rfl,h1,h2,h3⟩
  ·exact⟨none,[],e2,rfl,A0.nil,by simp,fun x hx=>(List.not_mem_nil hx).elim⟩
  exact⟨al,D,0,rfl,h1,h2,h3⟩
 clear hL
 have hl:=hl.mark
 refine zA ?_;refine zS ?_;refine AG rfl ?_;refine zS ?_;refine Az rfl ?_
 have hl:=hl.D2 (g:=gQ none []) (.inl ⟨rfl,rfl,rfl⟩)
 refine AK (L':=[(11,.int .i64 0),(10,.slice none 0 0),(8,.slice al D.length D.length),(7,.int .i64 e),(6,.int .i64 c),(5,.int .i64 0),(4,.slice none 0 0),(2,ptrTo B2 0),(1,.slice a C.length cap)]) sE ?_
 clear he CX
 refine A2 rfl (fun m Le S'=>∃(i:Nat) (e:Int) (ao:Option Addr) (O:List Rq),i≤c∧m=c.toNat-i∧O.length≤4096*i∧Af [(11,.int .i64 (i:Int)),(10,.slice ao O.length O.length),(8,.slice al D.length D.length),(7,.int .i64 e),(6,.int .i64 c),(5,.int .i64 0),(4,.slice none 0 0),(2,ptrTo B2 0),(1,.slice a C.length cap)] Le∧AE S [S3,S] S' [(B2,.cells [.int .i64 p,.int .i64 q,.int .i64 r,.int .i64 t] 51 false true [])] [gQ ao O]) ?_ (m:=c.toNat) ⟨0,e,none,[],AA,AA,by simp,sE,hl⟩
 clear hl e;rintro m Le S' ⟨i,e,ao,O,hi,rfl,He,AH,hl⟩;refine AK AH ?_
 refine zg ?_
 constructor<;>intro Eg
 ·
  have AN:(i:Int)<c:=I6 Eg
  refine zg ?_
  refine zc hl rfl (ANl p q r t a cap C (i:Int) hn (hl.AD.3 hF) (hv.move (hl.since 1 rfl))) ?_;rintro v S4 hk4 hR hl
  obtain⟨ak,K,aw,W,e3,rfl,hK,hW,Wn,Q0⟩:∃ak K aw W,∃e3:Int,v=Aw [.slice ak K.length K.length,.slice aw W.length W.length,.int .i64 e3]∧CZ S4 (.slice ak K.length K.length) K∧CZ S4 (.slice aw W.length W.length) W∧K.length≤1000∧W.length≤1000:=by
   rcases hR with ⟨e3,_,rfl⟩|⟨ak,K,aw,W,rfl,h1,h2,h3,h4⟩
   ·exact⟨none,[],none,[],e3,rfl,A0.nil,A0.nil,by simp,by simp⟩
   exact⟨ak,K,aw,W,0,rfl,h1,h2,h3,h4⟩
  clear hR
  have hl:=hl.mark
  refine zg ?_
  refine zc hl rfl (ANm p q r t a cap C ak K.length K aw W.length W hn Wn Q0 (hl.AD.3 hF) (hv.move (hl.since 2 rfl)) (hK.move (hl.since 0 rfl)) (hW.move (hl.since 0 rfl))) ?_;rintro v S5 W0 hR hl
  obtain⟨ai,I,e4,rfl,hI,hIn⟩:∃ai I,∃e4:Int,v=Aw [.slice ai I.length I.length,.int .i64 e4]∧Gu S5 (.slice ai I.length I.length) I∧I.length≤1000:=by
   have Gf:=bm (C:=C) C.length
   rcases hR with ⟨e3,_,rfl⟩|⟨ak,K,rfl,h1,h2⟩
   ·exact⟨none,[],e3,rfl,A0.nil,by simp⟩
   exact⟨ak,K,0,rfl,h1,AA⟩
  clear hR
  have hl:=hl.mark
  refine zg ?_
  obtain⟨y,hy⟩:∃y:Pt,y=⟨ai,I.length,none,0,none,0,I,[],[]⟩:=⟨_,rfl⟩
  have FI:[Value.slice ai I.length I.length,.slice none 0 0,.slice none 0 0]=y.cells:=by rw[hy];rfl
  refine rr rfl (A9 rfl rfl (v:=AX y.cells) (by rw[←FI];rfl)) ?_;refine Ry hl rfl rfl rfl rfl rfl Tryz.underlying213 rfl (c:=y.cells) (by rw[←FI];kernel_rfl) ?_;intro Yu S6 XD hl
  have hX:Vw S6 (.slice (some ⟨Yu,0,none⟩) [y].length 1) [y]:=A0.row (f:=Pt.cells) (C:=[y]) (fun _=>rfl) XD rfl
  have ME:∀x,x∈[y]→JJ S6 0 0 x:=fun x hx=>by
   rw[List.mem_singleton.1 hx,hy]
   exact⟨⟨hI.move (hl.since 0 rfl),A0.nil,A0.nil⟩,hIn,rfl,by simp⟩
  have hl:AE S [S4,S3,S] S6 _ _:=hl.marks (fun T hT=>BQ hT)
  refine zA ?_;refine AG rfl ?_;refine zS ?_;refine Az rfl ?_;refine AK (L':=[(18,.int .i64 0),(17,.slice (some ⟨Yu,0,none⟩) [y].length 1),(13,.slice aw W.length W.length),(12,.slice ak K.length K.length),(11,.int .i64 (i:Int)),(10,.slice ao O.length O.length),(8,.slice al D.length D.length),(7,.int .i64 e),(6,.int .i64 c),(5,.int .i64 0),(4,.slice none 0 0),(2,ptrTo B2 0),(1,.slice a C.length cap)]) sE ?_
  refine A2 rfl (fun m Le S'=>∃(k:Nat) (e:Int) (ax:Option Addr) (cx:Nat) (X:List Pt),k≤D.length∧m=D.length-k∧X.length≤4096∧Vw S' (.slice ax X.length cx) X∧(∀x,x∈X→JJ S' 0 (2001*k) x)∧Af [(18,.int .i64 (k:Int)),(17,.slice ax X.length cx),(13,.slice aw W.length W.length),(12,.slice ak K.length K.length),(11,.int .i64 (i:Int)),(10,.slice ao O.length O.length),(8,.slice al D.length D.length),(7,.int .i64 e),(6,.int .i64 c),(5,.int .i64 0),(4,.slice none 0 0),(2,ptrTo B2 0),(1,.slice a C.length cap)] Le∧AE S [S4,S3,S] S' [(B2,.cells [.int .i64 p,.int .i64 q,.int .i64 r,.int .i64 t] 51 false true [])] [gQ ao O]) ?_ (m:=D.length) ⟨0,e,_,_,[y],AA,AA,by show 1≤4096;omega,hX,ME,sE,hl⟩
  clear hl hX ME FI AH;rintro m Le S' ⟨k,e,ax,cx,X,hk,rfl,hXn,hX,ME,AH,hl⟩;refine AK AH ?_
  refine zg ?_
  constructor<;>intro E4
  ·
   have G3:k<D.length:=dT E4
   obtain⟨d,H'⟩:=Ad G3
   have hdb:=hDb d (BV H')
   obtain⟨b1,o1,BF,ha,_,AQ,Aa⟩:=(hD.move (hl.since 1 rfl)).elem H'
   refine zg ?_;refine BC (idx:=[0,1,2,3,4,5,6,7,8,9,10,11]) rfl AB AB ?_;refine zg ?_
   refine zp hl rfl (ANn p q r t d ax cx X (2001*k) AA hXn AA (hl.AD.3 hF) hX (fun x hx=>by rw[(ME x hx).c];exact ME x hx)) ?_;rintro v S7 hk7 hR hl;refine⟨zt,?_⟩
   clear ha AQ Aa
   rcases hR with ⟨e5,uP,rfl⟩|⟨ay,Y,rfl,hY,hYn,Q3⟩
   ·
    refine zg ?_
    constructor<;>intro Z4
    ·
     refine zg ?_
     exact AR (Ai (Bg (AR (Ai (AR (Ai (Bg (AR ((z2 rfl rfl ⟨hl.AD,.inl ⟨e5,uP,rfl⟩⟩))))))))))
    exact absurd (by simpa using Z4) uP
   refine zg ?_
   exact⟨D.length-(k+1),AA,k+1,0,ay,Y.length,Y,AA,rfl,hYn,hY,Q3,sE,hl⟩
  have hXg:∀x,x∈X→JJ S' 0 10000 x:=fun x hx=>⟨(ME x hx).o,(ME x hx).l,(ME x hx).c,by have:=(ME x hx).d;omega⟩
  have hl:=hl.mark
  clear ME hk AH
  refine HB rfl ?_;refine zS ?_;refine Az rfl ?_;refine AK (L':=[(19,.int .i64 0),(17,.slice ax X.length cx),(13,.slice aw W.length W.length),(12,.slice ak K.length K.length),(11,.int .i64 (i:Int)),(10,.slice ao O.length O.length),(8,.slice al D.length D.length),(7,.int .i64 e),(6,.int .i64 c),(5,.int .i64 0),(4,.slice none 0 0),(2,ptrTo B2 0),(1,.slice a C.length cap)]) sE ?_
  refine A2 rfl (fun m Le S9=>∃(j:Nat) (ao:Option Addr) (O:List Rq),j≤X.length∧m=X.length-j∧O.length≤4096*i+j∧Af [(19,.int .i64 (j:Int)),(17,.slice ax X.length cx),(13,.slice aw W.length W.length),(12,.slice ak K.length K.length),(11,.int .i64 (i:Int)),(10,.slice ao O.length O.length),(8,.slice al D.length D.length),(7,.int .i64 e),(6,.int .i64 c),(5,.int .i64 0),(4,.slice none 0 0),(2,ptrTo B2 0),(1,.slice a C.length cap)] Le∧AE S [S',S4,S3,S] S9 [(B2,.cells [.int .i64 p,.int .i64 q,.int .i64 r,.int .i64 t] 51 false true [])] [gQ ao O]) ?_ (m:=X.length) ⟨0,ao,O,AA,AA,AA,sE,hl⟩
  clear hl He;rintro m Le S9 ⟨j,ao,O,hj,rfl,He,AH,hl⟩;refine AK AH ?_
  refine zg ?_
  constructor<;>intro h80
  ·
   have aO:j<X.length:=dT h80
   obtain⟨x,hx⟩:=Ad aO
   have Cu:=hXg x (BV hx)
   have hl:=hl.mark
   obtain⟨b1,o1,BF,ha,_,AQ,Aa⟩:=(hX.move (hl.since 1 rfl)).elem hx
   refine zg ?_;refine BC (idx:=[0,1,3,5,6,7,8,9,11,12,13,14,15,2,4,10,16,17,18,19,20]) rfl AB AB ?_;refine zg ?_
   refine zp hl rfl (YQ ak K.length K none 0 [] AA (by simp) (hK.move (hl.since 2 rfl)) A0.nil) ?_;rintro v Sa hka ⟨qf,rfl,_⟩ hl;refine⟨zt,?_⟩
   refine zp hl rfl (YQ aw W.length W none 0 [] AA (by simp) (hW.move (hl.since 2 rfl)) A0.nil) ?_;rintro v Sb ui ⟨As,rfl,_⟩ hl;refine⟨zt,?_⟩
   refine zp hl rfl (YQ x.aD x.cD x.D none 0 [] (by have:=Cu.d;omega) (by simp) (Cu.o.d.move (hl.since 1 rfl)) A0.nil) ?_;rintro v Sc uj ⟨qh,rfl,_⟩ hl;refine⟨zt,?_⟩
   refine zp hl rfl (ANo x.aL x.cL x.L Cu.l (Cu.o.l.move (hl.since 1 rfl))) ?_;rintro v Sd hkd ⟨qi,Kd,rfl,_⟩ hl;refine⟨zt,?_⟩
   obtain⟨y,hy⟩:∃y:Rq,y=⟨qf,(K++[]).length,As,(W++[]).length,qh,(x.D++[]).length,qi,Kd.length⟩:=⟨_,rfl⟩
   have FI:[Value.slice qf (K++[]).length (K++[]).length,.slice As (W++[]).length (W++[]).length,.slice qh (x.D++[]).length (x.D++[]).length,.slice qi Kd.length Kd.length]=y.cells:=by rw[hy];rfl
   refine pr rfl (A9 rfl rfl (v:=AX y.cells) (by rw[←FI];rfl)) ?_;refine MX hF hl rfl rfl rfl rfl rfl Tryz.underlying127 rfl (c:=y.cells) (by rw[←FI];kernel_rfl) ?_;intro AS1 Se ATC AGq hl
   refine VG hl 0 rfl rfl (by simp) rfl rfl rfl rfl rfl rfl rfl Tryz.underlying127 Tryz.underlying127 rfl rfl AB (Cj (n:=1) (cap:=1) (new:=y.cells) AGq rfl) rfl rfl AB (by show O.length+1≤Ae;unfold Ae;omega) ?_;intro ASR Sf hl;refine⟨zt,?_⟩
   obtain⟨Ig,rfl⟩:∃x,ASR= .slice x (O.length+1) (O.length+1):=Am.C5 (hl.gr _ Al)
   have hl:AE S [S9,S',S4,S3,S] Sf _ [gQ Ig (O++[y])]:=AFv hl
   refine zg ?_
   exact⟨X.length-(j+1),AA,j+1,Ig,O++[y],AA,rfl,by rw[A8];omega,⟨rfl,rfl,rfl,rfl,rfl,by rw[A8 O y];rfl,rfl,rfl,rfl,rfl,rfl,rfl,rfl,trivial⟩,hl.marks (Us:=[S',S4,S3,S]) (fun T hT=>BQ hT)⟩
  refine zg ?_
  exact⟨c.toNat-(i+1),AA,i+1,e,ao,O,AA,rfl,AA,sE,hl.marks (Us:=[S3,S]) (fun T hT=>BQ (BQ hT))⟩
 refine zg ?_
 constructor<;>intro ti
 ·
  refine zg ?_
  exact AR ((z2 rfl rfl ⟨hl.AD,.inl ⟨_,by decide,rfl⟩⟩))
 have iE:O.length≤4096:=dF ti
 refine zg ?_
 constructor<;>intro ATA
 ·
  refine zg ?_
  exact AR ((z2 rfl rfl ⟨hl.AD,.inl ⟨_,by decide,rfl⟩⟩))
 refine zg ?_
 exact y2 rfl rfl ⟨hl.AD,.inr ⟨ao,O.length,rfl,iE⟩⟩
end Go.Proofs.YtmfphenhpkgidaaGreatDoor
namespace Go.Proofs.YtmfphenhpkgidaaGreatDoor
open Go.Cm Go
set_option maxRecDepth 100000
variable{S:St}
theorem yy(C W:List Sg)(f:Nat):∀(n j:Nat) (D:List Sg),(MU C W f n j D).length=D.length
 |0,_,_=>rfl
 |n+1,j,D=>by rw[MU,yy C W f n,List.length_set]
theorem s8(C:List Sg):∀(l:List (Nat×Nat)) (D:List Sg),(J' C l D).1=0→(J' C l D).2.length=D.length
 | [],_,_=>rfl
 |p::r,D,h=>by
  cases hb:((HO (Ci C p.1 p.2)).1 !=0)with
  |true =>
   rw[s6 hb]at h
   have h':(HO (Ci C p.1 p.2)).1=0:=h
   rw[h']at hb
   cases hb
  |false =>
   rw[s7 hb]at h ⊢
   rw[s8 C r _ h,yy]
theorem s4{nl:List UInt8}{C:List Sg}(h:(Fg nl C).1=0):(Fg nl C).2.length=C.length:=by
 cases hb:((Df nl C).1 !=0)with
 |true =>
  rw[sz hb]at h
  have h':(Df nl C).1=0:=h
  rw[h']at hb
  cases hb
 |false =>
  rw[s5 hb]at h ⊢
  exact s8 C _ _ h
theorem cn(C:List Sg):∀(n:Nat) (i f t:Int),0≤i→(f<0∨(0≤f∧f≤t∧t≤i))→((D6 n C i f t).2.1<0∨(0≤(D6 n C i f t).2.1∧(D6 n C i f t).2.1≤(D6 n C i f t).2.2∧(D6 n C i f t).2.2≤i+n))
 |0,i,f,t,hi,h=>by
  show f<0∨(0≤f∧f≤t∧t≤i+((0:Nat):Int))
  omega
 |n+1,i,f,t,hi,h=>by
  have e:i+1+(n:Int)=i+((n+1:Nat):Int):=by omega
  cases h1:(H2 (AU C i).kind==1)with
  |true =>
   rw[zh h1,←e]
   refine cn C n (i+1) _ (i+1) AA (.inr ?_)
   cases hf:decide (f<0)with
   |true =>
    show 0≤i∧i≤i+1∧i+1≤i+1
    omega
   |false =>
    have:=Jk hf
    show 0≤f∧f≤i+1∧i+1≤i+1
    omega
  |false =>
   cases h2:(H2 (AU C i).kind==2)with
   |true =>
    cases h3:decide (f<0)with
    |true =>
     rw[zj h1 h2 h3]
     exact .inl (I6 h3)
    |false =>
     have:=Jk h3
     rw[zk h1 h2 h3,←e]
     exact cn C n (i+1) f (i+1) AA (.inr AA)
   |false =>
    rw[zl h1 h2,←e]
    exact cn C n (i+1) f t AA AA
theorem ASl(C:List Sg){p q:Nat}(h:p≤q)(a b c d:Int):(Jv C p q a b c d).2.1<0∨(0≤(Jv C p q a b c d).2.1∧(Jv C p q a b c d).2.1≤(Jv C p q a b c d).2.2∧(Jv C p q a b c d).2.2≤q):=by
 have:=cn C (q-p) p (-1) 0 AA (.inl AA)
 rw[show((p:Nat):Int)+((q-p:Nat):Int)=(q:Int) by omega]at this
 unfold Jv
 generalize D6 (q-p) C p (-1) 0=W at this ⊢
 cases (W.1 !=0)with
 |true=>exact this
 |false =>
  cases (decide (W.2.1≥0)&&Xf a b c d)with
  |true=>exact this
  |false=>exact this
structure Sc where
 f:Int
 t:Int
 a:Int
 b:Int
 c:Int
 d:Int
def Sc.cells(x:Sc):List Value:=Pl x.f x.t x.a x.b x.c x.d
def Tp(n:Nat)(x:Sc):Prop:=0≤x.f∧x.f≤x.t∧x.t≤n
abbrev qM:=A0 163 8 Sc.cells
abbrev gC(av:Option Addr)(D:List Sc):Gr:=Hc 163 8 Sc.cells (.slice av D.length D.length) D
theorem AFp{Ts:List St}{S0 S1:St}{l:List (Nat×AF)}{av:Option Addr}{D:List Sc}{x:Sc}(h:AE S0 Ts S1 l [⟨.slice av (D.length+1) (D.length+1),163,8,(D.map Sc.cells).flatten++x.cells,D.length+1⟩]):AE S0 Ts S1 l [gC av (D++[x])]:=by
 unfold gC
 rw[Im]
 exact h
def ABj(S':St)(n:Nat)(v:Value):Prop:=(∃e:Int,e≠0∧v=Aw [.slice none 0 0,.int .i64 e])∨∃av O,v=Aw [.slice av O.length O.length,.int .i64 0]∧qM S' (.slice av O.length O.length) O∧O.length≤n+1∧∀x,x∈O→Tp n x
set_option maxHeartbeats 4000000 in
theorem ANp(nm:ByteArray)(a:Option Addr)(cap:Nat)(C:List Sg)(hn:C.length≤1000)(_:BW S)(hv:CW S (.slice a C.length cap) C):CC Tryz.prog KK 173 [AX [.string nm,.slice a C.length cap]] S (fun v S'=>AL S S'∧(ABj S' C.length v)):=by
 refine ce 73 Tryz.func173 fun hl=>?_;refine zg ?_;refine bL hl fun B1 S1 hl=>?_;refine zg ?_;refine aL hl [.int .i64 0,.int .i64 0,.int .i64 0,.int .i64 0] fun B5 S5 hl=>?_;refine zA ?_;refine zS ?_;refine AG rfl ?_;refine zS ?_;refine Az rfl ?_
 have hl:=hl.D2 (g:=gC none []) (.inl ⟨rfl,rfl,rfl⟩)
 refine AK (L':=[(7,.int .i64 0),(6,.int .i64 0),(5,ptrTo B5 0),(4,.slice none 0 0),(3,.int .i64 0),(2,.slice none 0 0),(1,ptrTo B1 0)]) sE ?_
 refine A2 rfl (fun m Le S'=>∃(i p:Nat) (ma mb mc md:Int) (av:Option Addr) (O:List Sc),i≤C.length+1∧m=C.length+1-i∧p≤i∧O.length≤i∧(∀x,x∈O→Tp C.length x)∧Af [(7,.int .i64 (i:Int)),(6,.int .i64 (p:Int)),(5,ptrTo B5 0),(4,.slice av O.length O.length),(3,.int .i64 0),(2,.slice none 0 0),(1,ptrTo B1 0)] Le∧AE S [S] S' [(B5,.cells [.int .i64 ma,.int .i64 mb,.int .i64 mc,.int .i64 md] 51 false true []),(B1,.cells [.string nm,.slice a C.length cap] 44 false true [])] [gC av O]) ?_ (m:=C.length+1) ⟨0,0,0,0,0,0,none,[],AA,AA,AA,by simp,fun x hx=>(List.not_mem_nil hx).elim,sE,hl⟩
 clear hl;rintro m Le S' ⟨i,p,ma,mb,mc,md,av,O,hi,rfl,HK,He,hO,AH,hl⟩;refine AK AH ?_
 refine zg ?_
 constructor<;>intro BZ
 ·
  have hle:i≤C.length:=dT BZ
  refine Ar rfl ?_;refine AG rfl ?_;refine Az rfl ?_;refine AG rfl ?_;refine AG rfl (HW hl 30 Value.bool ?_ rfl ?_)
  ·
   refine zg ?_;refine AZ (d:=22) rfl (fun Dy=>?_) (fun Dy=>?_)
   ·
    have AN:i<C.length:=dT Dy
    obtain⟨s,hs⟩:=Ad AN
    obtain⟨b1,o1,BF,ha,_,AQ,Aa⟩:=hv.elem hs
    refine zg ?_
    refine zc hl rfl (n9 s) ?_;rintro v S2 AM rfl hl
    refine zg ?_
    exact⟨rfl,⟨_,bl rfl⟩,sB,hl⟩
   refine zg ?_
   exact⟨rfl,⟨_,bl rfl⟩,sB,hl⟩
  clear hl;intro q30 S2 hl
  refine zg ?_
  constructor<;>intro CJ
  ·
   refine zg ?_
   exact⟨C.length+1-(i+1),AA,i+1,p,ma,mb,mc,md,av,O,AA,rfl,AA,AA,hO,sE,hl⟩
  have ja:=ASl C HK ma mb mc md
  refine zg ?_
  refine zc hl rfl (AN2 a cap C p i ma mb mc md hn HK hle (hv.move (hl.since 0 rfl))) ?_;rintro v S3 Cn rfl hl
  generalize Jv C p i ma mb mc md=W at ja ⊢
  obtain⟨x,hx⟩:∃x:Sc,x=⟨W.2.1,W.2.2,ma,mb,mc,md⟩:=⟨_,rfl⟩
  have aa:Pl W.2.1 W.2.2 ma mb mc md=x.cells:=by rw[hx];rfl
  refine zg ?_;refine aL hl [.int .i64 0,.int .i64 0,.int .i64 0,.int .i64 0,.int .i64 0,.int .i64 0,.int .i64 0,.int .i64 0] fun B8 S8 hl=>?_;refine sL hl 0 (Pl W.2.1 W.2.2 ma mb mc md) fun S9 hl=>?_;refine zg ?_
  constructor<;>intro FT
  ·
   refine zg ?_
   exact Ai (AR (Ai (Bg (AR ((z2 rfl rfl ⟨hl.AD,.inl ⟨_,by simpa using FT,rfl⟩⟩))))))
  refine Ar rfl ?_;refine AG rfl (Ex (fun Le S'=>∃(av:Option Addr) (O:List Sc),O.length≤i+1∧(∀x,x∈O→Tp C.length x)∧Af [(7,.int .i64 (i:Int)),(6,.int .i64 (p:Int)),(5,ptrTo B5 0),(4,.slice av O.length O.length),(3,.int .i64 0),(2,.slice none 0 0),(1,ptrTo B1 0)] Le∧AE S [S] S' [(B8,.cells x.cells 163 false true []),(B5,.cells [.int .i64 ma,.int .i64 mb,.int .i64 mc,.int .i64 md] 51 false true []),(B1,.cells [.string nm,.slice a C.length cap] 44 false true [])] [gC av O]) ?_ ?_)
  ·
   refine zg ?_
   constructor<;>intro DB
   ·
    refine zg ?_;refine dL hl (Pl W.2.1 W.2.2 ma mb mc md) Tryz.underlying159 fun B48 Sa aT hl=>?_
    rw[aa]at hl aT
    refine DZ hl 0 rfl rfl (by simp) rfl rfl rfl rfl rfl rfl rfl Tryz.underlying159 Tryz.underlying159 rfl rfl AB (Cj (n:=1) (cap:=1) (new:=x.cells) aT rfl) rfl rfl AB (by show O.length+1≤Ae;unfold Ae;omega) ?_;intro ot Sb hl
    obtain⟨As,rfl⟩:∃x,ot= .slice x (O.length+1) (O.length+1):=Am.C5 (hl.gr _ Al)
    have hl:AE S [S] Sb _ [gC As (O++[x])]:=AFp hl
    refine zg ?_
    refine⟨rfl,As,O++[x],by rw[A8];omega,fun z hz=>?_,⟨rfl,rfl,rfl,by rw[A8 O x];rfl,rfl,rfl,rfl,trivial⟩,hl⟩
    rcases List.mem_append.1 hz with h|h
    ·exact hO z h
    rw[List.mem_singleton.1 h,hx]
    have h0:0≤W.2.1:=dT DB
    show 0≤W.2.1∧W.2.1≤W.2.2∧W.2.2≤(C.length:Int)
    omega
   rw[aa]at hl
   refine Ar rfl ?_
   exact⟨rfl,av,O,AA,hO,sE,hl⟩
  clear hl AH hO He;rintro Le Sc ⟨av,O,He,hO,AH,hl⟩;refine AK AH ?_
  have hl:=hl.tail
  refine AG rfl (Ex (fun Le S'=>∃(ma mb mc md:Int),Af [(7,.int .i64 (i:Int)),(6,.int .i64 (p:Int)),(5,ptrTo B5 0),(4,.slice av O.length O.length),(3,.int .i64 0),(2,.slice none 0 0),(1,ptrTo B1 0)] Le∧AE S [S] S' [(B5,.cells [.int .i64 ma,.int .i64 mb,.int .i64 mc,.int .i64 md] 51 false true []),(B1,.cells [.string nm,.slice a C.length cap] 44 false true [])] [gC av O]) ?_ ?_)
  ·
   refine AG rfl (JF 63 (fun v S'=>∃B:Bool,v= .bool B∧(B=true→i<C.length)∧AE S [S] S' [(B5,.cells [.int .i64 ma,.int .i64 mb,.int .i64 mc,.int .i64 md] 51 false true []),(B1,.cells [.string nm,.slice a C.length cap] 44 false true [])] [gC av O]) ?_ ?_)
   ·
    refine zg ?_;refine AZ (d:=55) rfl (fun E3=>?_) (fun E3=>?_)
    ·
     have AN:i<C.length:=dT E3
     obtain⟨s,hs⟩:=Ad AN
     obtain⟨b1,o1,BF,ha,_,AQ,Aa⟩:=hv.elem hs
     refine zg ?_
     exact⟨rfl,_,bl rfl,sB,_,rfl,fun _=>AN,hl⟩
    refine zg ?_
    exact⟨rfl,_,bl rfl,sB,_,rfl,nofun,hl⟩
   clear hl;rintro v Sd ⟨B,rfl,hB,hl⟩
   refine zg ?_
   constructor<;>intro Z3
   ·
    have AN:=hB Z3
    obtain⟨s,hs⟩:=Ad AN
    obtain⟨b1,o1,BF,ha,_,AQ,Aa⟩:=hv.elem hs
    refine zg ?_;refine sL hl 0 [.int .i64 s.mx,.int .i64 s.md,.int .i64 s.tm,.int .i64 s.pr] fun Se hl=>?_;refine zg ?_
    exact⟨rfl,s.mx,s.md,s.tm,s.pr,sE,hl⟩
   refine zg ?_
   exact⟨rfl,ma,mb,mc,md,sE,hl⟩
  clear hl AH;rintro Le Sd ⟨ma,mb,mc,md,AH,hl⟩;refine AK AH ?_
  refine zg ?_
  exact⟨C.length+1-(i+1),AA,i+1,i+1,ma,mb,mc,md,av,O,AA,rfl,AA,He,hO,sE,hl⟩
 refine zg ?_
 exact y2 rfl rfl ⟨hl.AD,.inr ⟨av,O,rfl,Am.ls (f:=Sc.cells) (fun _=>rfl) (hl.gr _ Al),AA,hO⟩⟩
end Go.Proofs.YtmfphenhpkgidaaGreatDoor

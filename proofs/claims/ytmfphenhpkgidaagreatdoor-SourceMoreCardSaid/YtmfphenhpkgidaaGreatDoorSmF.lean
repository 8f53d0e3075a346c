/-
  The reference: runs of sections, Sections.
-/
import Derived.Test.YtmfphenhpkgidaaGreatDoorSmE
namespace Go.Proofs.YtmfphenhpkgidaaGreatDoor
open Go.Cm Go
set_option maxRecDepth 100000
variable{S:St}
abbrev gG(av:Option Addr)(D:List Sg):Gr:=Hc 55 17 Sg.cells (.slice av D.length D.length) D
theorem Zv{Ts:List St}{S0 S1:St}{l:List (Nat×AF)}{gs:List Gr}{av:Option Addr}{D:List Sg}{x:Sg}(h:AE S0 Ts S1 l (⟨.slice av (D.length+1) (D.length+1),55,17,(D.map Sg.cells).flatten++x.cells,D.length+1⟩::gs)):AE S0 Ts S1 l (gG av (D++[x])::gs):=by
 unfold gG
 rw[Im]
 exact h
theorem g2b{Ts:List St}{S0 S1:St}{l:List (Nat×AF)}{g:Gr}{av:Option Addr}{D:List Int}{x:Int}(h:AE S0 Ts S1 l [g,⟨.slice av (D.length+1) (D.length+1),3,1,(D.map ic).flatten++ic x,D.length+1⟩]):AE S0 Ts S1 l [g,Cx av (D++[x])]:=by
 unfold Cx
 rw[Im]
 exact h
set_option maxHeartbeats 4000000 in
theorem ANc(nm:ByteArray)(a:Option Addr)(cap:Nat)(C:List Sg)(x:Sc)(hn:C.length≤1000)(hx:Tp C.length x)(_:BW S)(hv:CW S (.slice a C.length cap) C):CC Tryz.prog KK 111 [AX [.string nm,.slice a C.length cap],AX x.cells] S (fun v S'=>AL S S'∧(∃av R aw W,v=Aw [.slice av R.length R.length,.slice aw W.length W.length]∧CW S' (.slice av R.length R.length) R∧R.length≤C.length∧CZ S' (.slice aw W.length W.length) W)):=by
 refine ce 44 Tryz.func111 fun hl=>?_
 obtain⟨IG,LI,KN⟩:=hx
 obtain⟨f,hf⟩:=Int.eq_ofNat_of_zero_le IG
 obtain⟨t,ht⟩:=Int.eq_ofNat_of_zero_le (show 0≤x.t by omega)
 refine zg ?_;refine bL hl fun B2 S2 hl=>?_;refine bL hl fun B3 S3 hl=>?_
 have hl:AE S [S] S3 [(B3,.cells x.cells 163 false true []),(B2,.cells [.string nm,.slice a C.length cap] 44 false true [])] []:=hl
 refine zA ?_;iterate 2 refine zS ?_
 refine AG rfl ?_;refine zS ?_;refine Az rfl ?_
 have hl:=(hl.D2 (g:=Cx none []) (.inl ⟨rfl,rfl,rfl⟩)).D2 (g:=gG none []) (.inl ⟨rfl,rfl,rfl⟩)
 refine AK (L':=[(8,.int .i64 (f:Int)),(7,.slice none 0 0),(6,.slice none 0 0),(5,.slice none 0 0),(4,.slice none 0 0),(3,ptrTo B3 0),(2,ptrTo B2 0)]) ⟨by rw[←hf];rfl,rfl,rfl,rfl,rfl,rfl,rfl,trivial⟩ ?_
 refine A2 rfl (fun m Le S'=>∃(i:Nat) (av:Option Addr) (R:List Sg) (aw:Option Addr) (W:List Int),i≤t∧m=t-i∧R.length≤i∧W.length≤i∧Af [(8,.int .i64 (i:Int)),(7,.slice aw W.length W.length),(6,.slice av R.length R.length),(5,.slice none 0 0),(4,.slice none 0 0),(3,ptrTo B3 0),(2,ptrTo B2 0)] Le∧AE S [S] S' [(B3,.cells x.cells 163 false true []),(B2,.cells [.string nm,.slice a C.length cap] 44 false true [])] [gG av R,Cx aw W]) ?_ (m:=t-f) ⟨f,none,[],none,[],AA,rfl,by simp,by simp,sE,hl⟩
 clear hl;rintro m Le S' ⟨i,av,R,aw,W,hi,rfl,hR,hW,AH,hl⟩;refine AK AH ?_
 refine zg ?_
 constructor<;>intro Bo
 ·
  have AN:i<t:=dT Bo
  obtain⟨s,hs⟩:=Ad (show i<C.length by omega)
  obtain⟨b1,o1,BF,ha,_,AQ,Aa⟩:=hv.elem hs
  refine zg ?_
  refine zc hl rfl (n9 s) ?_;rintro v S4 AM rfl hl
  refine zA ?_;refine AG rfl (HW hl 29 Value.bool ?_ rfl ?_)
  ·
   refine zg ?_;refine AZ (d:=26) rfl (fun C3=>?_) (fun C3=>?_)
   ·
    refine zg ?_
    exact⟨rfl,⟨_,bl rfl⟩,sB,hl⟩
   refine zg ?_
   exact⟨rfl,⟨_,bl rfl⟩,sB,hl⟩
  clear hl ha AQ Aa;intro q29 S5 hl
  obtain⟨b1,o1,BF,ha,_,AQ,Aa⟩:=hv.elem hs
  refine zg ?_
  constructor<;>intro DA
  ·
   refine zg ?_;refine dL hl s.cells Tryz.underlying42 fun Th S6 RM hl=>?_;refine DZ hl 0 rfl rfl (by show List.Nodup [(55:Nat),3];decide) rfl rfl rfl rfl rfl rfl rfl Tryz.underlying42 Tryz.underlying42 rfl rfl AB (Cj (n:=1) (cap:=1) (new:=s.cells) RM rfl) rfl rfl AB (by show R.length+1≤Ae;unfold Ae;omega) ?_;intro Tf S7 hl
   obtain⟨As,rfl⟩:∃x,Tf= .slice x (R.length+1) (R.length+1):=Am.C5 (hl.gr _ Al)
   have hl:AE S [S] S7 _ [gG As (R++[s]),Cx aw W]:=Zv hl
   refine zg ?_;refine dL hl (ic (i:Int)) Tryz.underlying38 fun Kg S8 AG' hl=>?_;refine DZ hl 1 rfl rfl (by show List.Nodup [(55:Nat),3];decide) rfl rfl rfl rfl rfl rfl rfl Tryz.underlying38 Tryz.underlying38 rfl rfl AB (Cj (n:=1) (cap:=1) (new:=ic (i:Int)) AG' rfl) rfl rfl AB (by show W.length+1≤Ae;unfold Ae;omega) ?_;intro v41 S9 hl
   obtain⟨qj,rfl⟩:∃x,v41= .slice x (W.length+1) (W.length+1):=Am.C5 (hl.gr _ (BQ Al))
   have hl:AE S [S] S9 _ [gG As (R++[s]),Cx qj (W++[(i:Int)])]:=g2b hl
   refine zg ?_
   exact⟨t-(i+1),AA,i+1,As,R++[s],qj,W++[(i:Int)],AA,rfl,by rw[A8];omega,by rw[A8];omega,⟨rfl,by rw[A8 W (i:Int)];rfl,by rw[A8 R s];rfl,rfl,rfl,rfl,rfl,trivial⟩,hl⟩
  refine zg ?_
  exact⟨t-(i+1),AA,i+1,av,R,aw,W,AA,rfl,AA,AA,sE,hl⟩
 refine zg ?_
 exact y2 rfl rfl ⟨hl.AD,av,R,aw,W,rfl,Am.ls (f:=Sg.cells) (fun _=>rfl) (hl.gr _ Al),AA,Am.ls (f:=ic) (fun _=>rfl) (hl.gr _ (BQ Al))⟩
def qN(S':St)(nl:List UInt8)(C:List Sg)(v:Value):Prop:=(∃e:Int,e≠0∧v=Aw [.slice none 0 0,.int .i64 e])∨((Fg nl C).1=0∧∃av O,v=Aw [.slice av O.length O.length,.int .i64 0]∧qM S' (.slice av O.length O.length) O∧O.length≤C.length+1∧∀x,x∈O→Tp C.length x)
theorem ANg(nm:ByteArray)(a:Option Addr)(cap:Nat)(C:List Sg)(Ch:nm.data.toList.length≤1000)(hn:C.length≤1000)(hF:BW S)(hv:CW S (.slice a C.length cap) C):CC Tryz.prog KK 138 [AX [.string nm,.slice a C.length cap]] S (fun v S'=>AL S S'∧(qN S' nm.data.toList C v)):=by
 refine ce 18 Tryz.func138 fun hl=>?_;refine zg ?_;refine bL hl fun B1 S1 hl=>?_;refine zg ?_
 refine zc hl rfl (AAF nm a cap C Ch hn (hl.AD.3 hF) (hv.move (hl.since 0 rfl))) ?_;rintro v S2 ED ⟨Uz,a2,Bv,rfl,hX⟩ hl
 have hl:=hl.mark
 refine zg ?_;refine aL hl ([.string ⟨#[]⟩,.slice none 0 0]) fun B4 S4 hl=>?_;refine sL hl 0 [.string Uz,.slice a2 (Fg nm.data.toList C).2.length Bv] fun S5 hl=>?_
 have hX:CW S5 (.slice a2 (Fg nm.data.toList C).2.length Bv) (Fg nm.data.toList C).2:=by
  exact hX.move (hl.since 0 rfl)
 refine zg ?_
 constructor<;>intro Cf
 ·
  refine zg ?_
  exact z2 rfl rfl ⟨hl.AD,.inl ⟨_,by simpa using Cf,rfl⟩⟩
 have h0:(Fg nm.data.toList C).1=0:=by simpa using Cf
 have Nk:=s4 h0
 have hl:=hl.mark
 refine zg ?_
 refine zc hl rfl (ANp Uz a2 Bv (Fg nm.data.toList C).2 AA (hl.AD.3 hF) (hX.move (hl.since 0 rfl))) ?_;rintro v S6 hk6 hR hl
 rcases hR with ⟨e,he,rfl⟩|⟨av,O,rfl,hO,He,JX⟩
 ·
  refine zg ?_
  exact y2 rfl rfl ⟨hl.AD,.inl ⟨e,he,rfl⟩⟩
 refine zg ?_
 exact y2 rfl rfl ⟨hl.AD,.inr ⟨h0,av,O,rfl,hO,AA,by rw[Nk]at JX;exact JX⟩⟩
end Go.Proofs.YtmfphenhpkgidaaGreatDoor
namespace Go.Proofs.YtmfphenhpkgidaaGreatDoor
open Go.Cm Go
set_option maxRecDepth 100000
variable{S:St}
theorem ANf(nm:ByteArray)(a:Option Addr)(cap:Nat)(C:List Sg)(Ch:nm.data.toList.length≤1000)(hn:C.length≤1000)(hv:CW S (.slice a C.length cap) C):CC Tryz.prog KK 137 [AX [.string nm,.slice a C.length cap]] S (fun v S'=>AL S S'∧(∃e i:Int,v=Aw [.int .i64 e,.int .i64 i])):=by
 refine ce 50 Tryz.func137 fun hl=>?_;refine zg ?_;refine bL hl fun B1 S1 hl=>?_;refine zg ?_
 refine zc hl rfl (oG nm a cap C Ch hn (hv.move (hl.since 0 rfl))) ?_;rintro v S2 ED rfl hl
 refine zg ?_
 constructor<;>intro BZ
 ·
  refine zg ?_
  exact z2 rfl rfl ⟨hl.AD,_,_,rfl⟩
 refine Ar rfl ?_;refine zS ?_;refine AG rfl ?_;refine zS ?_;refine Az rfl ?_;refine AK (L':=[(7,.int .i64 0),(6,.int .i64 (-1)),(3,.int .i64 0),(2,.int .i64 0),(1,ptrTo B1 0)]) sE ?_
 refine A2 rfl (fun m Le S'=>∃(i:Nat) (o:Int),i≤C.length∧m=C.length-i∧Af [(7,.int .i64 (i:Int)),(6,.int .i64 o),(3,.int .i64 0),(2,.int .i64 0),(1,ptrTo B1 0)] Le∧AE S [S] S' [(B1,.cells [.string nm,.slice a C.length cap] 44 false true [])] []) ?_ (m:=C.length) ⟨0, -1,AA,AA,sE,hl⟩
 clear hl;rintro m Le S' ⟨i,o,hi,rfl,AH,hl⟩;refine AK AH ?_
 refine zg ?_
 constructor<;>intro Bf
 ·
  have AN:i<C.length:=dT Bf
  obtain⟨s,hs⟩:=Ad AN
  obtain⟨b1,o1,BF,ha,_,AQ,Aa⟩:=hv.elem hs
  refine zg ?_
  constructor<;>intro CJ
  ·
   refine zg ?_
   constructor<;>intro EU
   ·
    refine zg ?_
    exact Ai (AR (AR (Ai (Bg (AR ((z2 rfl rfl ⟨hl.AD,_,_,rfl⟩)))))))
   refine zg ?_
   exact⟨C.length-(i+1),AA,i+1,(i:Int),AA,rfl,sE,hl⟩
  refine AG rfl (HW hl 36 Value.bool ?_ rfl ?_)
  ·
   refine zg ?_
   constructor<;>intro Eg
   ·
    refine zg ?_
    exact⟨rfl,⟨_,bl rfl⟩,sB,hl⟩
   refine zg ?_
   exact⟨rfl,⟨_,bl rfl⟩,sB,hl⟩
  clear hl;intro q36 S3 hl
  refine zg ?_
  constructor<;>intro Eg
  ·
   refine zg ?_
   constructor<;>intro DO
   ·
    refine zg ?_
    exact AR (AR (Ai (Bg (AR ((z2 rfl rfl ⟨hl.AD,_,_,rfl⟩))))))
   refine zg ?_
   exact⟨C.length-(i+1),AA,i+1,o,AA,rfl,sE,hl⟩
  refine zg ?_
  constructor<;>intro Oy
  ·
   refine zg ?_
   constructor<;>intro DB
   ·
    refine zg ?_
    exact Ai (AR (AR (Ai (Bg (AR ((z2 rfl rfl ⟨hl.AD,_,_,rfl⟩)))))))
   refine zg ?_
   exact⟨C.length-(i+1),AA,i+1, -1,AA,rfl,sE,hl⟩
  refine zg ?_
  exact⟨C.length-(i+1),AA,i+1,o,AA,rfl,sE,hl⟩
 refine zg ?_
 constructor<;>intro EK
 ·
  refine zg ?_
  exact z2 rfl rfl ⟨hl.AD,_,_,rfl⟩
 refine zg ?_
 exact y2 rfl rfl ⟨hl.AD,_,_,rfl⟩
theorem ANa(nm:ByteArray)(a:Option Addr)(cap:Nat)(C:List Sg)(Ch:nm.data.toList.length≤1000)(hn:C.length≤1000)(hF:BW S)(hv:CW S (.slice a C.length cap) C):CC Tryz.prog KK 109 [AX [.string nm,.slice a C.length cap]] S (fun v S'=>AL S S'∧(qN S' nm.data.toList C v)):=by
 refine ce 18 Tryz.func109 fun hl=>?_;refine zg ?_;refine bL hl fun B1 S1 hl=>?_;refine zg ?_
 refine zc hl rfl (ANf nm a cap C Ch hn (hv.move (hl.since 0 rfl))) ?_;rintro v S2 ED ⟨e,i,rfl⟩ hl
 refine zg ?_
 constructor<;>intro Cf
 ·
  refine zg ?_
  exact z2 rfl rfl ⟨hl.AD,.inl ⟨_,by simpa using Cf,rfl⟩⟩
 refine zg ?_
 refine zc hl rfl (ANg nm a cap C Ch hn (hl.AD.3 hF) (hv.move (hl.since 0 rfl))) ?_;rintro v S6 hk6 hR hl
 rcases hR with ⟨e,he,rfl⟩|⟨h0,av,O,rfl,hO,He,JX⟩
 ·
  refine zg ?_
  exact y2 rfl rfl ⟨hl.AD,.inl ⟨e,he,rfl⟩⟩
 refine zg ?_
 exact y2 rfl rfl ⟨hl.AD,.inr ⟨h0,av,O,rfl,hO,He,JX⟩⟩
structure Sl where
 a:Option Addr
 n:Nat
def Sl.cells(x:Sl):List Value:=[.slice x.a x.n x.n]
abbrev Wc(av:Option Addr)(D:List Sl):Gr:=Hc 127 1 Sl.cells (.slice av D.length D.length) D
theorem AFt{Ts:List St}{S0 S1:St}{l:List (Nat×AF)}{av:Option Addr}{D:List Sl}{x:Sl}(h:AE S0 Ts S1 l [⟨.slice av (D.length+1) (D.length+1),127,1,(D.map Sl.cells).flatten++x.cells,D.length+1⟩]):AE S0 Ts S1 l [Wc av (D++[x])]:=by
 unfold Wc
 rw[Im]
 exact h
def ABh(S':St)(v:Value):Prop:=(∃e:Int,e≠0∧v=Aw [.slice none 0 0,.int .i64 e])∨(∃av O,v=Aw [.slice av O.length O.length,.int .i64 0]∧A0 127 1 Sl.cells S' (.slice av O.length O.length) O∧O.length≤1001∧∀x,x∈O→x.n≤4096)
set_option maxHeartbeats 4000000 in
theorem AOi(nm:ByteArray)(a:Option Addr)(cap:Nat)(C:List Sg)(Ch:nm.data.toList.length≤1000)(hn:C.length≤1000)(hF:BW S)(hv:CW S (.slice a C.length cap) C):CC Tryz.prog KK 86 [AX [.string nm,.slice a C.length cap]] S (fun v S'=>AL S S'∧(ABh S' v)):=by
 refine ce 60 Tryz.func86 fun hl=>?_;refine zg ?_;refine bL hl fun B1 S1 hl=>?_;refine zg ?_
 refine zc hl rfl (ANa nm a cap C Ch hn (hl.AD.3 hF) (hv.move (hl.since 0 rfl))) ?_;rintro v S2 ED hR hl
 rcases hR with ⟨e,he,rfl⟩|⟨h0,av,O,rfl,hO,He,JX⟩
 ·
  refine zg ?_
  constructor<;>intro Cq
  ·
   refine zg ?_
   exact z2 rfl rfl ⟨hl.AD,.inl ⟨e,he,rfl⟩⟩
  exact absurd (by simpa using Cq) he
 have Nk:=s4 h0
 have hl:=hl.mark
 refine zg ?_
 refine zc hl rfl (AAF nm a cap C Ch hn (hl.AD.3 hF) (hv.move (hl.since 1 rfl))) ?_;rintro v S3 Cn ⟨Uz,a2,Bv,rfl,hX⟩ hl
 have hX:CW S3 (.slice a2 (Fg nm.data.toList C).2.length Bv) (Fg nm.data.toList C).2:=hX
 have JX:∀x,x∈O→Tp (Fg nm.data.toList C).2.length x:=by rw[Nk];exact JX
 generalize (Fg nm.data.toList C).2=X at hX Nk JX ⊢
 generalize (Fg nm.data.toList C).1=e0 at h0 ⊢
 have hl:=hl.mark
 refine zg ?_;refine aL hl ([.string ⟨#[]⟩,.slice none 0 0]) fun B6 S6 hl=>?_;refine sL hl 0 [.string Uz,.slice a2 X.length Bv] fun S7 hl=>?_;refine zA ?_;refine zS ?_;refine AG rfl ?_;refine zS ?_;refine Az rfl ?_
 have hl:=hl.D2 (g:=Wc none []) (.inl ⟨rfl,rfl,rfl⟩)
 refine AK (L':=[(9,.int .i64 0),(8,.slice none 0 0),(6,ptrTo B6 0),(4,.slice av O.length O.length),(3,.int .i64 0),(2,.slice none 0 0)]) sE ?_
 refine A2 rfl (fun m Le S'=>∃(i:Nat) (ao:Option Addr) (Y:List Sl),i≤O.length∧m=O.length-i∧Y.length=i∧(∀x,x∈Y→x.n≤4096)∧Af [(9,.int .i64 (i:Int)),(8,.slice ao Y.length Y.length),(6,ptrTo B6 0),(4,.slice av O.length O.length),(3,.int .i64 0),(2,.slice none 0 0)] Le∧AE S [S3,S2,S] S' [(B6,.cells [.string Uz,.slice a2 X.length Bv] 44 false true []),(B1,.cells [.string nm,.slice a C.length cap] 44 false true [])] [Wc ao Y]) ?_ (m:=O.length) ⟨0,none,[],AA,AA,rfl,fun x hx=>(List.not_mem_nil hx).elim,sE,hl⟩
 clear hl;rintro m Le S' ⟨i,ao,Y,hi,rfl,hY,Q3,AH,hl⟩;refine AK AH ?_
 refine zg ?_
 constructor<;>intro CJ
 ·
  have AN:i<O.length:=dT CJ
  obtain⟨x,hx⟩:=Ad AN
  have Cu:=JX x (BV hx)
  have hl:=hl.mark
  obtain⟨b1,o1,BF,ha,_,AQ,Aa⟩:=(hO.move (hl.since 2 rfl)).elem hx
  refine zg ?_;refine BC (idx:=[0,1,2,3,4,5,6,7,8,9,10]) rfl AB AB ?_;refine zg ?_
  refine zp hl rfl (ANc Uz a2 Bv X x AA Cu (hl.AD.3 hF) (hX.move (hl.since 1 rfl))) ?_;rintro v S8 iq ⟨ar,R,aw,W,rfl,hR,uG,_⟩ hl;refine⟨zt,?_⟩
  have hl:=hl.mark
  clear ha AQ Aa
  obtain⟨b1,o1,BF,ha,_,AQ,Aa⟩:=(hO.move (hl.since 3 rfl)).elem hx
  refine zg ?_
  refine zc hl rfl (ANd x.a x.b x.c x.d ar R.length R AA (hl.AD.3 hF) (hR.move (hl.since 0 rfl))) ?_;rintro v S9 hk9 hA hl
  rcases hA with ⟨e,he,rfl⟩|⟨aA,nA,rfl,aR⟩
  ·
   refine zg ?_
   constructor<;>intro FC
   ·
    refine zg ?_
    exact Ai (AR (Ai (Bg (AR ((z2 rfl rfl ⟨hl.AD,.inl ⟨e,he,rfl⟩⟩))))))
   exact absurd (by simpa using FC) he
  obtain⟨y,hy⟩:∃y:Sl,y=⟨aA,nA⟩:=⟨_,rfl⟩
  have FI:[Value.slice aA nA nA]=y.cells:=by rw[hy];rfl
  refine zg ?_;refine Ry hl rfl rfl rfl rfl rfl Tryz.underlying142 rfl (c:=y.cells) (by rw[←FI];kernel_rfl) ?_;intro Yu Sa XD hl;refine DZ hl 0 rfl rfl (by simp) rfl rfl rfl rfl rfl rfl rfl Tryz.underlying142 Tryz.underlying142 rfl rfl AB (Cj (n:=1) (cap:=1) (new:=y.cells) XD rfl) rfl rfl AB (by show Y.length+1≤Ae;unfold Ae;omega) ?_;intro ou Sb hl
  obtain⟨Ig,rfl⟩:∃x,ou= .slice x (Y.length+1) (Y.length+1):=Am.C5 (hl.gr _ Al)
  have hl:AE S [S8,S',S3,S2,S] Sb _ [Wc Ig (Y++[y])]:=AFt hl
  refine zg ?_
  refine⟨O.length-(i+1),AA,i+1,Ig,Y++[y],AA,rfl,by rw[A8];omega,fun z hz=>?_,⟨rfl,by rw[A8 Y y];rfl,rfl,rfl,rfl,rfl,trivial⟩,hl.marks (Us:=[S3,S2,S]) (fun T hT=>BQ (BQ hT))⟩
  rcases List.mem_append.1 hz with h|h
  ·exact Q3 z h
  rw[List.mem_singleton.1 h,hy]
  exact aR
 refine zg ?_
 exact y2 rfl rfl ⟨hl.AD,.inr ⟨ao,Y,rfl,Am.ls (f:=Sl.cells) (fun _=>rfl) (hl.gr _ Al),AA,Q3⟩⟩
def ABd(S':St)(v:Value):Prop:=(∃e:Int,e≠0∧v=Aw [.slice none 0 0,.int .i64 e])∨(∃av O,v=Aw [.slice av O.length O.length,.int .i64 0]∧CZ S' (.slice av O.length O.length) O∧O.length≤1001∧∀x,x∈O→0≤x∧x≤4096)
theorem AOV(nm:ByteArray)(a:Option Addr)(cap:Nat)(C:List Sg)(Ch:nm.data.toList.length≤1000)(hn:C.length≤1000)(hF:BW S)(hv:CW S (.slice a C.length cap) C):CC Tryz.prog KK 61 [AX [.string nm,.slice a C.length cap]] S (fun v S'=>AL S S'∧(ABd S' v)):=by
 refine ce 31 Tryz.func61 fun hl=>?_;refine zg ?_;refine bL hl fun B1 S1 hl=>?_;refine zg ?_
 refine zc hl rfl (AOi nm a cap C Ch hn (hl.AD.3 hF) (hv.move (hl.since 0 rfl))) ?_;rintro v S2 ED hR hl
 rcases hR with ⟨e,he,rfl⟩|⟨av,O,rfl,hO,He,JX⟩
 ·
  refine zg ?_
  constructor<;>intro BZ
  ·
   refine zg ?_
   exact z2 rfl rfl ⟨hl.AD,.inl ⟨e,he,rfl⟩⟩
  exact absurd (by simpa using BZ) he
 have hl:=hl.mark
 refine zg ?_
 have hl:=hl.D2 (g:=Cx none []) (.inl ⟨rfl,rfl,rfl⟩)
 refine AK (L':=[(7,.int .i64 0),(6,.slice none 0 0),(4,.slice av O.length O.length),(3,.int .i64 0),(2,.slice none 0 0)]) sE ?_
 refine A2 rfl (fun m Le S'=>∃(i:Nat) (ao:Option Addr) (Y:List Int),i≤O.length∧m=O.length-i∧Y.length=i∧(∀x,x∈Y→0≤x∧x≤4096)∧Af [(7,.int .i64 (i:Int)),(6,.slice ao Y.length Y.length),(4,.slice av O.length O.length),(3,.int .i64 0),(2,.slice none 0 0)] Le∧AE S [S2,S] S' [(B1,.cells [.string nm,.slice a C.length cap] 44 false true [])] [Cx ao Y]) ?_ (m:=O.length) ⟨0,none,[],AA,AA,rfl,fun x hx=>(List.not_mem_nil hx).elim,sE,hl⟩
 clear hl;rintro m Le S' ⟨i,ao,Y,hi,rfl,hY,Q3,AH,hl⟩;refine AK AH ?_
 refine zg ?_
 constructor<;>intro DN
 ·
  have AN:i<O.length:=dT DN
  obtain⟨x,hx⟩:=Ad AN
  have Cu:=JX x (BV hx)
  obtain⟨b1,o1,BF,ha,_,AQ,Aa⟩:=(hO.move (hl.since 0 rfl)).elem hx
  refine zg ?_;refine dL hl (ic (x.n:Int)) Tryz.underlying38 fun B28 Sa AG5 hl=>?_;refine DZ hl 0 rfl rfl (by simp) rfl rfl rfl rfl rfl rfl rfl Tryz.underlying38 Tryz.underlying38 rfl rfl AB (Cj (n:=1) (cap:=1) AG5 rfl) rfl rfl AB (by show Y.length+1≤Ae;unfold Ae;omega) ?_;intro v29 Sb hl
  obtain⟨Ig,rfl⟩:∃x,v29= .slice x (Y.length+1) (Y.length+1):=Am.C5 (hl.gr _ Al)
  have hl:AE S [S2,S] Sb _ [Cx Ig (Y++[(x.n:Int)])]:=JQ hl
  refine zg ?_
  refine⟨O.length-(i+1),AA,i+1,Ig,Y++[(x.n:Int)],AA,rfl,by rw[A8];omega,fun z hz=>?_,⟨rfl,by rw[A8 Y (x.n:Int)];rfl,rfl,rfl,rfl,trivial⟩,hl⟩
  rcases List.mem_append.1 hz with h|h
  ·exact Q3 z h
  rw[List.mem_singleton.1 h]
  omega
 refine zg ?_
 exact y2 rfl rfl ⟨hl.AD,.inr ⟨ao,Y,rfl,Am.ls (f:=ic) (fun _=>rfl) (hl.gr _ Al),AA,Q3⟩⟩
theorem AOB(nm:ByteArray)(a:Option Addr)(cap:Nat)(C:List Sg)(Ch:nm.data.toList.length≤1000)(hn:C.length≤1000)(hF:BW S)(hv:CW S (.slice a C.length cap) C):CC Tryz.prog KK 27 [AX [.string nm,.slice a C.length cap]] S (fun v S'=>AL S S'∧(∃c e:Int,v=Aw [.int .i64 c,.int .i64 e])):=by
 refine ce 31 Tryz.func27 fun hl=>?_;refine zg ?_;refine bL hl fun B1 S1 hl=>?_;refine zg ?_
 refine zc hl rfl (AOV nm a cap C Ch hn (hl.AD.3 hF) (hv.move (hl.since 0 rfl))) ?_;rintro v S2 ED hR hl
 rcases hR with ⟨e,he,rfl⟩|⟨av,O,rfl,hO,He,JX⟩
 ·
  refine zg ?_
  constructor<;>intro BZ
  ·
   refine zg ?_
   exact z2 rfl rfl ⟨hl.AD,_,e,rfl⟩
  exact absurd (by simpa using BZ) he
 have hl:=hl.mark
 refine zg ?_;refine AK (L':=[(7,.int .i64 0),(6,.int .i64 1),(4,.slice av O.length O.length),(3,.int .i64 0),(2,.int .i64 0)]) sE ?_
 refine A2 rfl (fun m Le S'=>∃(i:Nat) (N:Int),i≤O.length∧m=O.length-i∧0≤N∧N≤4096∧Af [(7,.int .i64 (i:Int)),(6,.int .i64 N),(4,.slice av O.length O.length),(3,.int .i64 0),(2,.int .i64 0)] Le∧AE S [S2,S] S' [(B1,.cells [.string nm,.slice a C.length cap] 44 false true [])] []) ?_ (m:=O.length) ⟨0,1,AA,AA,AA,AA,sE,hl⟩
 clear hl;rintro m Le S' ⟨i,N,hi,rfl,Wo,Qy,AH,hl⟩;refine AK AH ?_
 refine zg ?_
 constructor<;>intro DN
 ·
  have AN:i<O.length:=dT DN
  obtain⟨x,hx⟩:=Ad AN
  have Cu:=JX x (BV hx)
  have UR:=GO Wo Qy Cu.1 Cu.2
  obtain⟨b1,o1,BF,ha,_,AQ,Aa⟩:=(hO.move (hl.since 0 rfl)).elem hx
  refine zg ?_
  constructor<;>intro DA
  ·
   refine zg ?_
   exact AR (Ai (Bg (AR ((z2 rfl rfl ⟨hl.AD,_,_,rfl⟩)))))
  have DA:N*x≤4096:=dF DA
  refine zg ?_
  exact⟨O.length-(i+1),AA,i+1,N*x,AA,rfl,UR.1,DA,sE,hl⟩
 refine zg ?_
 exact y2 rfl rfl ⟨hl.AD,_,_,rfl⟩
end Go.Proofs.YtmfphenhpkgidaaGreatDoor
namespace Go.Proofs.YtmfphenhpkgidaaGreatDoor
open Go.Cm Go
set_option maxRecDepth 100000
variable{S:St}
structure Sp where
 a:Option Addr
 c:Nat
 x:AP
def Sp.cells(y:Sp):List Value:=[.slice y.a y.x.AT.length y.c,.bool y.x.blank]
abbrev L9(av:Option Addr)(D:List Sp):Gr:=Hc 49 2 Sp.cells (.slice av D.length D.length) D
theorem AFy{Ts:List St}{S0 S1:St}{l:List (Nat×AF)}{av:Option Addr}{D:List Sp}{x:Sp}(h:AE S0 Ts S1 l [⟨.slice av (D.length+1) (D.length+1),49,2,(D.map Sp.cells).flatten++x.cells,D.length+1⟩]):AE S0 Ts S1 l [L9 av (D++[x])]:=by
 unfold L9
 rw[Im]
 exact h
theorem AOq{S:St}{v:Value}{D:List Sp}(h:A0 49 2 Sp.cells S v D)(ho:∀y,y∈D→CW S (.slice y.a y.x.AT.length y.c) y.x.AT):EG S v (D.map Sp.x):=by
 refine⟨D.map Sp.cells,by rw[D1,D1],h,fun k x hx=>?_⟩
 rw[CE,List.getElem?_map]at hx
 cases hy:D[k]? with
 |none=>rw[hy]at hx;cases hx
 |some y =>
  rw[hy]at hx
  cases hx
  exact⟨y.cells,by rw[CE,List.getElem?_map,hy];rfl,_,rfl,ho y (BV (by rw[CE];exact hy))⟩
def F7:Int→List AP→Option Int
 |n,[]=>some n
 |n,x::L=>bif decide (n*EM x>4096)then none else F7 (n*EM x) L
def Dw(nl:List UInt8)(L:List AP):Int×Int:=bif (DF nl L).1 !=0 then(0,(DF nl L).1)else match F7 1 L with
 |some n=>(n,0)
 |none=>(0,15)
theorem fP{nl:List UInt8}{L:List AP}(h:((DF nl L).1 !=0)=true):Dw nl L=(0,(DF nl L).1):=by unfold Dw;rw[h];rfl
theorem sC{nl:List UInt8}{L:List AP}(h:((DF nl L).1 !=0)=false)(k:F7 1 L=none):Dw nl L=(0,15):=by unfold Dw;rw[h,k];rfl
theorem sD{nl:List UInt8}{L:List AP}{n:Int}(h:((DF nl L).1 !=0)=false)(k:F7 1 L=some n):Dw nl L=(n,0):=by unfold Dw;rw[h,k];rfl
theorem yr{L:List AP}{i:Nat}{x:AP}{n:Int}(hx:nth L i=some x)(h:decide (n*EM x>4096)=false):F7 n (L.drop i)=F7 (n*EM x) (L.drop (i+1)):=by
 rw[C9 hx,F7,h];rfl
theorem yq{L:List AP}{i:Nat}{x:AP}{n:Int}(hx:nth L i=some x)(h:decide (n*EM x>4096)=true):F7 n (L.drop i)=none:=by
 rw[C9 hx,F7,h];rfl
theorem ym{L:List AP}{i:Nat}{n:Int}(h:L.length≤i):F7 n (L.drop i)=some n:=by
 rw[List.drop_eq_nil_of_le h];rfl
theorem AAB(x:AP)(h:x.AT.length≤1000):0≤EM x∧EM x≤1001:=by
 unfold EM
 cases x.blank<;>simp<;>omega
theorem ANb(nm:ByteArray)(a:Option Addr)(cap:Nat)(L:List AP)(hn:L.length≤1000)(hs:∀x,x∈L→x.AT.length≤1000)(hG:Gl S)(hv:EG S (.slice a L.length cap) L):CC Tryz.prog KK 11 [AX [.string nm,.slice a L.length cap]] S (fun v S'=>AL S S'∧(v=Aw [.int .i64 (Dw nm.data.toList L).1,.int .i64 (Dw nm.data.toList L).2])):=by
 refine ce 32 Tryz.func11 fun hl=>?_;refine zg ?_;refine bL hl fun B1 S1 hl=>?_;refine zg ?_
 refine zc hl rfl (AAl nm a cap L hn hs (hG.AD hl.AD) (hv.move (hl.since 0 rfl))) ?_;rintro v S2 AM rfl hl
 refine zg ?_
 constructor<;>intro Bo
 ·
  refine zg ?_
  exact(z2 rfl rfl ⟨hl.AD,by rw[fP Bo]⟩)
 refine Ar rfl ?_;refine zS ?_;refine AG rfl ?_;refine zS ?_;refine Az rfl ?_;refine AK (L':=[(20,.int .i64 0),(19,.int .i64 L.length),(18,.slice a L.length cap),(6,.int .i64 1),(3,.int .i64 0),(2,.int .i64 0)]) sE ?_
 refine A2 rfl (fun m Le S'=>∃(i:Nat) (N:Int),i≤L.length∧m=L.length-i∧0≤N∧N≤4096∧F7 N (L.drop i)=F7 1 L∧Af [(20,.int .i64 (i:Int)),(19,.int .i64 L.length),(18,.slice a L.length cap),(6,.int .i64 N),(3,.int .i64 0),(2,.int .i64 0)] Le∧AE S [S] S' [(B1,.cells [.string nm,.slice a L.length cap] 24 false true [])] []) ?_ (m:=L.length) ⟨0,1,AA,AA,AA,AA,rfl,sE,hl⟩
 clear hl;rintro m Le S' ⟨i,N,hi,rfl,Wo,Qy,DI,AH,hl⟩;refine AK AH ?_
 refine zg ?_
 constructor<;>intro Bf
 ·
  have AN:i<L.length:=dT Bf
  obtain⟨x,hx⟩:=Ad AN
  have FH:=hs x (BV hx)
  have XH:=AAB x FH
  have UR:=GO Wo Qy XH.1 XH.2
  obtain⟨b1,o1,BF,a1,c1,ha,AQ,Aa,Fm⟩:=hv.elem hx
  refine zg ?_;refine aL hl [.slice none 0 0,.bool false] fun B8 S8 hl=>?_;refine sL hl 0 [.slice a1 x.AT.length c1,.bool x.blank] fun S9 hl=>?_;refine zg ?_
  refine zc hl rfl (c6 a1 x.AT.length c1 x.blank FH) ?_;rintro v GB AM D4 hl
  have D4:v= .int .i64 (EM x):=D4
  subst D4
  refine zg ?_
  constructor<;>intro DA
  ·
   refine zg ?_
   exact AR (Ai (Bg (AR ((z2 rfl rfl ⟨hl.AD,by rw[sC Bo (by rw[←DI];exact yq hx DA)]⟩)))))
  have gm:N*EM x≤4096:=dF DA
  refine zg ?_
  exact⟨L.length-(i+1),AA,i+1,N*EM x,AA,rfl,UR.1,gm,by rw[←yr hx DA];exact DI,sE,hl.tail⟩
 refine zg ?_
 exact y2 rfl rfl ⟨hl.AD,by rw[sD Bo (by rw[←DI];exact ym (dF Bf))]⟩
theorem AAG(nm:ByteArray)(a:Option Addr)(cap:Nat)(L:List AP)(Ch:nm.data.toList.length≤1000)(hn:L.length≤1000)(hs:∀x,x∈L→x.AT.length≤1000)(hv:EG S (.slice a L.length cap) L):CC Tryz.prog KK 12 [AX [.string nm,.slice a L.length cap]] S (fun v S'=>AL S S'∧(v=Aw [.int .i64 (Dw nm.data.toList L).1,.int .i64 (Dw nm.data.toList L).2])):=by
 refine ce 34 Tryz.func12 fun hl=>?_;refine zg ?_;refine bL hl fun B1 S1 hl=>?_;refine zg ?_
 refine zc hl rfl (ANW nm a cap L Ch hn hs (hv.move (hl.since 0 rfl))) ?_;rintro v S2 AM rfl hl
 refine zg ?_
 constructor<;>intro Bo
 ·
  refine zg ?_
  exact(z2 rfl rfl ⟨hl.AD,by rw[fP Bo]⟩)
 refine Ar rfl ?_;refine zS ?_;refine AG rfl ?_;refine zS ?_;refine Az rfl ?_;refine AK (L':=[(7,.int .i64 0),(6,.int .i64 1),(3,.int .i64 0),(2,.int .i64 0),(1,ptrTo B1 0)]) sE ?_
 refine A2 rfl (fun m Le S'=>∃(i:Nat) (N:Int),i≤L.length∧m=L.length-i∧0≤N∧N≤4096∧F7 N (L.drop i)=F7 1 L∧Af [(7,.int .i64 (i:Int)),(6,.int .i64 N),(3,.int .i64 0),(2,.int .i64 0),(1,ptrTo B1 0)] Le∧AE S [S] S' [(B1,.cells [.string nm,.slice a L.length cap] 24 false true [])] []) ?_ (m:=L.length) ⟨0,1,AA,AA,AA,AA,rfl,sE,hl⟩
 clear hl;rintro m Le S' ⟨i,N,hi,rfl,Wo,Qy,DI,AH,hl⟩;refine AK AH ?_
 refine zg ?_
 constructor<;>intro Bf
 ·
  have AN:i<L.length:=dT Bf
  obtain⟨x,hx⟩:=Ad AN
  have FH:=hs x (BV hx)
  have XH:=AAB x FH
  have UR:=GO Wo Qy XH.1 XH.2
  obtain⟨b1,o1,BF,a1,c1,ha,AQ,Aa,Fm⟩:=hv.elem hx
  refine zg ?_
  refine zc hl rfl (YT a1 x.AT.length c1 x.blank FH) ?_;rintro v GB AM D4 hl
  have D4:v= .int .i64 (EM x):=D4
  subst D4
  refine zg ?_
  constructor<;>intro DA
  ·
   refine zg ?_
   exact AR (Ai (Bg (AR ((z2 rfl rfl ⟨hl.AD,by rw[sC Bo (by rw[←DI];exact yq hx DA)]⟩)))))
  have gm:N*EM x≤4096:=dF DA
  refine zg ?_
  exact⟨L.length-(i+1),AA,i+1,N*EM x,AA,rfl,UR.1,gm,by rw[←yr hx DA];exact DI,sE,hl⟩
 refine zg ?_
 exact y2 rfl rfl ⟨hl.AD,by rw[sD Bo (by rw[←DI];exact ym (dF Bf))]⟩
end Go.Proofs.YtmfphenhpkgidaaGreatDoor
namespace Go.Proofs.YtmfphenhpkgidaaGreatDoor
open Go.Cm Go
set_option maxRecDepth 100000
variable{S:St}
def A6(x:AP):Nat:=x.AT.length+bif x.blank then 1 else 0
theorem YP(x:AP):EM x=(A6 x:Int):=by
 unfold EM A6
 cases x.blank<;>simp
def dg:List AP→Nat→List Nat×Nat
 | [],n=>([],n)
 |x::L,n=>(((dg L n).2%A6 x)::(dg L n).1,(dg L n).2/A6 x)
theorem fY:∀(L:List AP) (n:Nat),(dg L n).1.length=L.length
 | [],_=>rfl
 |x::L,n=>by
  show(dg L n).1.length+1=L.length+1
  rw[fY L n]
def FJ(x:AP)(c:Nat):List Sg:=match nth x.AT c with
 |some s=>[s]
 |none=>[]
def IL(Z:List (AP×Nat)):List Sg:=(Z.map fun p=>FJ p.1 p.2).flatten
def mk(L:List AP)(cs:List Nat):List Sg:=IL (L.zip cs)
theorem lf{Z:List (AP×Nat)}{i:Nat}{p:AP×Nat}(h:nth Z i=some p):IL (Z.take (i+1))=IL (Z.take i)++FJ p.1 p.2:=by
 unfold IL
 rw[QO h,Hm,List.flatten_append]
 simp
theorem p5{L:List AP}{cs:List Nat}{i:Nat}{x:AP}{c:Nat}(h:nth L i=some x)(k:nth cs i=some c):nth (L.zip cs) i=some (x,c):=by
 rw[CE]at h k ⊢
 exact List.getElem?_zip_eq_some.2 ⟨h,k⟩
theorem AJN(x:AP)(c:Nat):(FJ x c).length≤1:=by
 unfold FJ
 split<;>simp
theorem xY:∀(Z:List (AP×Nat)),(IL Z).length≤Z.length
 | []=>by simp[IL]
 |p::Z=>by
  have h1:=xY Z
  have h2:=AJN p.1 p.2
  have e:IL (p::Z)=FJ p.1 p.2++IL Z:=rfl
  rw[e,DS,List.length_cons]
  omega
theorem xb(L:List AP)(cs:List Nat):(mk L cs).length≤L.length:=by
 have:=xY (L.zip cs)
 rw[List.length_zip]at this
 unfold mk
 omega
theorem xZ:∀{Z:List (AP×Nat)} {s:Sg},s∈IL Z→∃p,p∈Z∧s∈p.1.AT
 | [],s,h=>by simp[IL]at h
 |p::Z,s,h=>by
  have e:IL (p::Z)=FJ p.1 p.2++IL Z:=rfl
  rw[e]at h
  rcases List.mem_append.1 h with h|h
  ·refine⟨p,Al,?_⟩
   unfold FJ at h
   split at h
   ·rename_i t ht
    rw[List.mem_singleton.1 h]
    exact BV ht
   cases h
  obtain⟨q,h1,h2⟩:=xZ h
  exact⟨q,BQ h1,h2⟩
theorem AIl{L:List AP}{cs:List Nat}{s:Sg}(h:s∈mk L cs):∃x,x∈L∧s∈x.AT:=by
 obtain⟨p,h1,h2⟩:=xZ h
 exact⟨p.1,(List.of_mem_zip h1).1,h2⟩
def Jl(nl:List UInt8)(C:List Sg):Bool:=(Df nl C).1==0
def Gq(nl:List UInt8)(O:List (List Sg))(p:List Sg):List (List Sg):=bif Jl nl p&&!decide (p∈O)then O++[p]else O
def Eo(nl:List UInt8)(L:List AP):Nat→List (List Sg)
 |0=>[]
 |i+1=>Gq nl (Eo nl L i) (mk L (dg L i).1)
def D0:List AP→List Nat→List Nat×Bool
 |x::L,c::cs=>bif (D0 L cs).2 then(bif decide (c+1<A6 x)then((c+1)::(D0 L cs).1,false)else(0::(D0 L cs).1,true))else(c::(D0 L cs).1,false)
 |_,_=>([],true)
theorem AIo{m s:Nat}(hs:0<s)(h:m%s+1<s):(m+1)%s=m%s+1∧(m+1)/s=m/s:=by
 have e:=Nat.div_add_mod m s
 have e2:m+1=s*(m/s)+(m%s+1):=by omega
 constructor
 ·rw[e2,Nat.mul_add_mod]
  exact Nat.mod_eq_of_lt h
 rw[e2,Nat.mul_add_div hs,Nat.div_eq_of_lt h,Nat.add_zero]
theorem AIn{m s:Nat}(hs:0<s)(h:¬m%s+1<s):(m+1)%s=0∧(m+1)/s=m/s+1:=by
 have e:=Nat.div_add_mod m s
 have hl:=Nat.mod_lt m hs
 have e2:m+1=s*(m/s+1):=by rw[Nat.mul_add,Nat.mul_one];omega
 constructor
 ·rw[e2]
  exact Nat.mul_mod_right ..
 rw[e2]
 exact Nat.mul_div_cancel_left _ hs
theorem sR:∀(L:List AP) (n:Nat),(∀x,x∈L→0<A6 x)→D0 L (dg L n).1=((dg L (n+1)).1,decide ((dg L (n+1)).2≠(dg L n).2))∧((dg L (n+1)).2=(dg L n).2∨(dg L (n+1)).2=(dg L n).2+1)
 | [],n,_=>by
  refine⟨?_,.inr rfl⟩
  show(([]:List Nat),true)=([],decide (n+1≠n))
  rw[decide_eq_true AA]
 |x::L,n,hp=>by
  obtain⟨h1,h2⟩:=sR L n fun y hy=>hp y (BQ hy)
  have hs:=hp x Al
  have ea:∀k,dg (x::L) k=(((dg L k).2%A6 x)::(dg L k).1,(dg L k).2/A6 x):=fun _=>rfl
  rw[ea,ea]
  generalize hA:dg L n=A at h1 h2 ⊢
  generalize hB:dg L (n+1)=B at h1 h2 ⊢
  show D0 (x::L) ((A.2%A6 x)::A.1)=_∧_
  rw[D0,h1]
  rcases h2 with h2|h2
  ·rw[h2,decide_eq_false (by simp)]
   refine⟨?_,.inl rfl⟩
   show((A.2%A6 x)::B.1,false)=((A.2%A6 x)::B.1,decide (A.2/A6 x≠A.2/A6 x))
   rw[decide_eq_false (by simp)]
  rw[h2,decide_eq_true AA]
  by_cases hc:A.2%A6 x+1<A6 x
  ·obtain⟨e1,e2⟩:=AIo hs hc
   rw[decide_eq_true hc,e1,e2]
   refine⟨?_,.inl rfl⟩
   show(_,false)=(_,decide (A.2/A6 x≠A.2/A6 x))
   rw[decide_eq_false (by simp)]
  obtain⟨e1,e2⟩:=AIn hs hc
  rw[decide_eq_false hc,e1,e2]
  refine⟨?_,.inr rfl⟩
  show(_,true)=(_,decide (A.2/A6 x+1≠A.2/A6 x))
  rw[decide_eq_true AA]
def BR:List AP→Nat
 | []=>1
 |x::L=>BR L*A6 x
theorem Zh:∀(L:List AP) (n:Nat),(dg L n).2=n/BR L
 | [],n=>(Nat.div_one n).symm
 |x::L,n=>by
  show(dg L n).2/A6 x=n/(BR L*A6 x)
  rw[Zh L n,Nat.div_div_eq_div_mul]
theorem yn:∀(L:List AP) (n m:Int),F7 n L=some m→m=n*(BR L:Int)
 | [],n,m,h=>by
  cases h
  simp[BR]
 |x::L,n,m,h=>by
  rw[F7]at h
  cases hb:decide (n*EM x>4096)with
  |true=>rw[hb]at h;cases h
  |false =>
   rw[hb]at h
   rw[yn L _ _ h,YP,BR,Int.natCast_mul,Int.mul_assoc,Int.mul_comm (A6 x:Int)]
theorem AEm{nl:List UInt8}{L:List AP}(h:(Dw nl L).2=0)(h2:((DF nl L).1 !=0)=false):(Dw nl L).1=(BR L:Int):=by
 unfold Dw at h ⊢
 rw[h2]at h ⊢
 cases hp:F7 1 L with
 |none=>rw[hp]at h;cases h
 |some n =>
  rw[hp]at h
  have:=yn L 1 n hp
  show n=_
  omega
theorem fQ{nl:List UInt8}{L:List AP}(h:(Dw nl L).2=0):((DF nl L).1 !=0)=false:=by
 cases hb:((DF nl L).1 !=0)with
 |false=>rfl
 |true =>
  rw[fP hb]at h
  have h:(DF nl L).1=0:=h
  rw[h]at hb
  cases hb
theorem AAo:∀(L:List AP) (i:Nat),(F9 L i).1=0→∀x,x∈L→1≤A6 x∧A6 x≤4
 | [],_,_,x,hx=>(List.not_mem_nil hx).elim
 |y::L,i,h,x,hx=>by
  unfold F9 at h
  cases hb:G8 y with
  |true=>rw[hb]at h;cases h
  |false =>
   rw[hb]at h
   cases hc:(Fp [] y.AT !=0)with
   |true =>
    rw[hc]at h
    have h:Fp [] y.AT=0:=h
    rw[h]at hc
    cases hc
   |false =>
    rw[hc]at h
    rcases List.mem_cons.1 hx with e|hx
    ·subst e
     unfold G8 at hb
     rw[YP]at hb
     simp only[Bool.or_eq_false_iff,decide_eq_false_iff_not]at hb
     omega
    exact AAo L (i+1) h x hx
theorem sA{nl:List UInt8}{L:List AP}(h:((DF nl L).1 !=0)=false):∀x,x∈L→1≤A6 x∧A6 x≤4:=by
 have h:(DF nl L).1=0:=by simpa using h
 unfold DF at h
 cases hb:!HP nl with
 |true=>rw[hb]at h;cases h
 |false =>
  cases hc:decide ((L.length:Int)>400)with
  |true=>rw[hb,hc]at h;cases h
  |false =>
   rw[hb,hc]at h
   exact AAo L 0 h
end Go.Proofs.YtmfphenhpkgidaaGreatDoor
namespace Go.Proofs.YtmfphenhpkgidaaGreatDoor
open Go.Cm Go
set_option maxRecDepth 100000
variable{S:St}
structure Pr where
 a:Option Addr
 c:Nat
 C:List Sg
def Pr.cells(nm:ByteArray)(x:Pr):List Value:=[.string nm,.slice x.a x.C.length x.c]
def Pr.Ok(S:St)(x:Pr):Prop:=CW S (.slice x.a x.C.length x.c) x.C
theorem Pr.Ok.move{S T:St}{x:Pr}(h:x.Ok S)(hk:RK S T):x.Ok T:=A0.move hk h
abbrev eS(nm:ByteArray):=A0 44 2 (Pr.cells nm)
abbrev T'(nm:ByteArray)(av:Option Addr)(D:List Pr):Gr:=Hc 44 2 (Pr.cells nm) (.slice av D.length D.length) D
theorem AFu{nm:ByteArray}{Ts:List St}{S0 S1:St}{l:List (Nat×AF)}{av:Option Addr}{D:List Pr}{x:Pr}(h:AE S0 Ts S1 l [⟨.slice av (D.length+1) (D.length+1),44,2,(D.map (Pr.cells nm)).flatten++x.cells nm,D.length+1⟩]):AE S0 Ts S1 l [T' nm av (D++[x])]:=by
 unfold T'
 rw[Im]
 exact h
theorem AI8{α:Type}{C D:List α}(hl:C.length=D.length)(h:∀i x y,nth C i=some x→nth D i=some y→x=y):C=D:=by
 apply List.ext_getElem hl
 intro i h1 h2
 exact h i _ _ (by rw[CE];exact List.getElem?_eq_getElem h1) (by rw[CE];exact List.getElem?_eq_getElem h2)
set_option maxHeartbeats 4000000 in
theorem AOR(nm:ByteArray)(a b:Option Addr)(ca cb:Nat)(C D:List Sg)(hn:C.length≤1000)(_:BW S)(hv:CW S (.slice a C.length ca) C)(hw:CW S (.slice b D.length cb) D):CC Tryz.prog KK 48 [AX [.string nm,.slice a C.length ca],AX [.string nm,.slice b D.length cb]] S (fun v S'=>AL S S'∧(v= .bool (decide (C=D)))):=by
 refine ce 38 Tryz.func48 fun hl=>?_;refine zg ?_;refine bL hl fun B2 S2 hl=>?_;refine bL hl fun B3 S3 hl=>?_;refine zA ?_;refine AG rfl ?_;refine AG rfl (CR hl 19 (.bool ((C.length:Int) !=(D.length:Int))) ?_ rfl ?_)
 ·
  refine zg ?_;refine AZ (d:=11) rfl (fun Ba=>?_) (fun Ba=>?_)
  ·
   rw[VI]at Ba
   cases Ba
  refine zg ?_
  exact⟨rfl,bl rfl,sB,hl⟩
 intro S1 hl
 refine zg ?_
 constructor<;>intro DN
 ·
  refine zg ?_
  exact(z1 rfl ⟨hl.AD,by rw[decide_eq_false];intro e;rw[e]at DN;simp at DN⟩)
 have hlen:C.length=D.length:=by
  have h:(C.length:Int)=D.length:=by simpa using DN
  omega
 refine Ar rfl ?_;refine AG rfl ?_;refine zS ?_;refine Az rfl ?_;refine AK (L':=[(5,.int .i64 0),(4,.bool false),(3,ptrTo B3 0),(2,ptrTo B2 0)]) sE ?_
 refine A2 rfl (fun m Le S'=>∃i:Nat,i≤C.length∧m=C.length-i∧(∀j x y,j<i→nth C j=some x→nth D j=some y→x=y)∧Af [(5,.int .i64 (i:Int)),(4,.bool false),(3,ptrTo B3 0),(2,ptrTo B2 0)] Le∧AE S [S] S' [(B3,.cells [.string nm,.slice b D.length cb] 44 false true []),(B2,.cells [.string nm,.slice a C.length ca] 44 false true [])] []) ?_ (m:=C.length) ⟨0,AA,AA,fun j x y h=>absurd h AA,sE,hl⟩
 clear hl;rintro m Le S' ⟨i,hi,rfl,KM,AH,hl⟩;refine AK AH ?_
 refine zg ?_
 constructor<;>intro Ef
 ·
  have AN:i<C.length:=dT Ef
  obtain⟨x,hx⟩:=Ad AN
  obtain⟨y,hy⟩:=Ad (show i<D.length by omega)
  obtain⟨b1,o1,BF,ha,_,AQ,Aa⟩:=hv.elem hx
  obtain⟨b2,o2,EH,FD,_,GK,F0⟩:=hw.elem hy
  refine zg ?_;refine BC (idx:=[0,1,2,3,4,5,6,7,8,9,10]) rfl AB AB ?_;refine zg ?_;refine pr rfl (Ao rfl rfl rfl (Uy _ _ x y)) ?_;refine zg ?_
  constructor<;>intro HG
  ·
   refine zg ?_
   refine AR (Ai (Bg (AR ((z1 rfl ⟨hl.AD,?_⟩)))))
   rw[decide_eq_false]
   intro e
   subst e
   rw[hx]at hy
   cases hy
   simp at HG
  have RS:x=y:=by simpa using HG
  refine zg ?_
  refine⟨C.length-(i+1),AA,i+1,AA,rfl,fun j u w hj hu PG=>?_,sE,hl⟩
  rcases Nat.lt_or_ge j i with h|h
  ·exact KM j u w h hu PG
  obtain rfl:j=i:=by omega
  rw[hx]at hu
  rw[hy]at PG
  cases hu
  cases PG
  exact RS
 refine zg ?_
 exact y1 rfl ⟨hl.AD,by rw[decide_eq_true];exact AI8 hlen fun j x y hx hy=>KM j x y (by have:=I5 hx;have:=Jk Ef;omega) hx hy⟩
abbrev nc(k:Nat):Int:=(k:Int)
set_option maxHeartbeats 4000000 in
theorem AOQ(nm:ByteArray)(a:Option Addr)(cap:Nat)(L:List AP)(b:Option Addr)(cb:Nat)(cs:List Nat)(hn:L.length≤1000)(Hf:cs.length=L.length)(hs:∀x,x∈L→x.AT.length≤1000)(hF:BW S)(hv:EG S (.slice a L.length cap) L)(hw:CZ S (.slice b (cs.map nc).length cb) (cs.map nc)):CC Tryz.prog KK 47 [AX [.string nm,.slice a L.length cap],.slice b (cs.map nc).length cb] S (fun v S'=>AL S S'∧(∃ap cp,v=AX [.string nm,.slice ap (mk L cs).length cp]∧CW S' (.slice ap (mk L cs).length cp) (mk L cs))):=by
 refine ce 47 Tryz.func47 fun hl=>?_
 have RV:(L.zip cs).length=L.length:=by rw[List.length_zip];omega
 have LB:(cs.map nc).length=L.length:=by rw[D1];omega
 refine zg ?_;refine bL hl fun B2 S2 hl=>?_;refine aL hl ([.string ⟨#[]⟩,.slice none 0 0]) fun B4 S4 hl=>?_;refine zg ?_;refine rr rfl (A9 rfl rfl (v:=AX [.string nm,.slice none 0 0]) (by rfl)) ?_;refine aL hl ([.string ⟨#[]⟩,.slice none 0 0]) fun B5 S5 hl=>?_;refine sL hl 0 [.string nm,.slice none 0 0] fun S6 hl=>?_;refine zA ?_;refine AG rfl ?_;refine zS ?_;refine Az rfl ?_
 have hl:=hl.D2 (g:=gG none []) (.inl ⟨rfl,rfl,rfl⟩)
 refine AK (L':=[(6,.int .i64 0),(5,ptrTo B5 0),(4,ptrTo B4 0),(2,ptrTo B2 0),(1,.slice b (cs.map nc).length cb)]) sE ?_
 refine A2 rfl (fun m Le S'=>∃(i:Nat) (av:Option Addr) (D:List Sg),i≤L.length∧m=L.length-i∧D.length≤i∧D=IL ((L.zip cs).take i)∧Af [(6,.int .i64 (i:Int)),(5,ptrTo B5 0),(4,ptrTo B4 0),(2,ptrTo B2 0),(1,.slice b (cs.map nc).length cb)] Le∧AE S [S] S' [(B5,.cells [.string nm,.slice av D.length D.length] 44 false true []),(B4,.cells [.string ⟨#[]⟩,.slice none 0 0] 44 false true []),(B2,.cells [.string nm,.slice a L.length cap] 24 false true [])] [gG av D]) ?_ (m:=L.length) ⟨0,none,[],AA,AA,by simp,rfl,sE,hl⟩
 clear hl;rintro m Le S' ⟨i,av,D,hi,rfl,MC,hD,AH,hl⟩;refine AK AH ?_
 refine zg ?_
 constructor<;>intro BZ
 ·
  have AN:i<L.length:=dT BZ
  obtain⟨x,hx⟩:=Ad AN
  obtain⟨k,hk⟩:=Ad (show i<cs.length by omega)
  have FH:=hs x (BV hx)
  have Hj:nth (cs.map nc) i=some (k:Int):=by rw[CE,List.getElem?_map,←CE,hk];rfl
  have hz:=lf (p5 hx hk)
  obtain⟨b1,o1,BF,a1,c1,ha,AQ,Aa,Fm⟩:=hv.elem hx
  obtain⟨b2,o2,EH,FD,_,GK,F0⟩:=hw.elem Hj
  refine zg ?_;refine BC (idx:=[0,1,2,3,4,5,6,7,8,9,10,11]) rfl AB AB ?_;refine zg ?_
  constructor<;>intro FA
  ·
   have RD:k<x.AT.length:=dT FA
   obtain⟨s,Jd⟩:=Ad RD
   have No:FJ x k= [s]:=by unfold FJ;rw[Jd]
   have Fm:CW S (.slice a1 x.AT.length c1) x.AT:=Fm
   obtain⟨b3,o3,H3,Is,_,Ix,IE⟩:=Fm.elem Jd
   refine BC (idx:=[0,1,2,3,4,5,6,7,8,9,10,11,12,13,14,15,16,17]) rfl AB AB ?_;refine zg ?_;refine MX hF hl rfl rfl rfl rfl rfl Tryz.underlying42 rfl (c:=s.cells) AB ?_;intro B43 S7 AGW jK hl
   refine VG hl 0 rfl rfl (by simp) rfl rfl rfl rfl rfl rfl rfl Tryz.underlying42 Tryz.underlying42 rfl rfl AB (Cj (n:=1) (cap:=1) (new:=s.cells) jK rfl) rfl rfl AB (by show D.length+1≤Ae;unfold Ae;omega) ?_;intro oq S8 hl;refine⟨zt,?_⟩
   obtain⟨As,rfl⟩:∃x,oq= .slice x (D.length+1) (D.length+1):=Am.C5 (hl.gr _ Al)
   have hl:AE S [S] S8 _ [gG As (D++[s])]:=Zv hl
   refine zg ?_
   refine pL hl 0 [.string nm,.slice As (D.length+1) (D.length+1)] (h:=fun S9 hl=>⟨zt,?_⟩)
   refine zg ?_
   exact⟨L.length-(i+1),AA,i+1,As,D++[s],AA,rfl,by rw[A8];omega,by rw[hz,No,←hD],sE,by rw[A8];exact hl⟩
  have No:FJ x k= []:=by
   unfold FJ
   rw[CE,List.getElem?_eq_none (dF FA)]
  refine zg ?_
  exact⟨L.length-(i+1),AA,i+1,av,D,AA,rfl,AA,by rw[hz,No,←hD,List.append_nil],sE,hl⟩
 have DH:i=L.length:=dF BZ
 subst DH
 have Qw:D=mk L cs:=by rw[hD,←RV,List.take_length];rfl
 clear hD
 subst Qw
 have hR:=Am.ls (f:=Sg.cells) (fun _=>rfl) (hl.gr _ Al)
 have hl:=hl.mark
 refine zg ?_;refine sL hl 1 [.string nm,.slice av (mk L cs).length (mk L cs).length] fun S9 hl=>?_;refine zg ?_
 exact BA (Bm rfl (lN (z:=2) (hl.get 1 rfl) rfl) rfl) ⟨hl.AD,av,(mk L cs).length,rfl,hR.move (hl.since 0 rfl)⟩
end Go.Proofs.YtmfphenhpkgidaaGreatDoor
namespace Go.Proofs.YtmfphenhpkgidaaGreatDoor
open Go.Cm Go
set_option maxRecDepth 100000
variable{S:St}
theorem yp:∀(L:List AP) (n m:Int),n≤4096→F7 n L=some m→m≤4096
 | [],n,m,hn,h=>by
  cases h
  exact hn
 |x::L,n,m,hn,h=>by
  rw[F7]at h
  cases hb:decide (n*EM x>4096)with
  |true=>rw[hb]at h;cases h
  |false =>
   rw[hb]at h
   exact yp L _ m (dF hb) h
theorem sF{nl:List UInt8}{L:List AP}(h:(Dw nl L).2=0):(Dw nl L).1=(BR L:Int)∧BR L≤4096:=by
 have hc:=fQ h
 have hp:=AEm h hc
 refine⟨hp,?_⟩
 unfold Dw at h hp
 rw[hc]at h hp
 cases hq:F7 1 L with
 |none=>rw[hq]at h;cases h
 |some n =>
  rw[hq]at hp
  have hp:n=(BR L:Int):=hp
  have:=yp L 1 n AA hq
  omega
def eT(S':St)(nm:ByteArray)(L:List AP)(v:Value):Prop:=((Dw nm.data.toList L).2≠0∧v=Aw [.slice none 0 0,.int .i64 (Dw nm.data.toList L).2])∨((Dw nm.data.toList L).2=0∧∃av P,v=Aw [.slice av P.length P.length,.int .i64 0]∧eS nm S' (.slice av P.length P.length) P∧(∀x,x∈P→x.Ok S')∧P.map Pr.C=Eo nm.data.toList L (BR L)∧P.length≤4096∧∀x,x∈P→x.C.length≤1000)
theorem AIh{P:List Pr}{k:Nat}{y:Pr}{p:List Sg}(hy:nth P k=some y)(hB:decide (p∈(P.take k).map Pr.C)=false):decide (y.C=p)=decide (p∈(P.take (k+1)).map Pr.C):=by
 rw[QO hy,Hm]
 have h1:=Jk hB
 rw[decide_eq_decide]
 constructor
 ·intro e
  exact List.mem_append.2 (.inr (by rw[←e];exact Al))
 intro e
 rcases List.mem_append.1 e with h|h
 ·exact absurd h h1
 exact(List.mem_singleton.1 h).symm
theorem AIi{P:List Pr}{k:Nat}{p:List Sg}(h:(decide ((k:Int)<(P.length:Int))&&!decide (p∈(P.take k).map Pr.C))=false):decide (p∈(P.take k).map Pr.C)=decide (p∈P.map Pr.C):=by
 rw[decide_eq_decide]
 constructor
 ·intro e
  obtain⟨y,hy,rfl⟩:=List.mem_map.1 e
  exact List.mem_map.2 ⟨y,List.mem_of_mem_take hy,rfl⟩
 intro e
 rw[Bool.and_eq_false_iff]at h
 rcases h with h|h
 ·have:=Jk h
  rw[List.take_of_length_le AA]
  exact e
 simpa using h
set_option maxHeartbeats 4000000 in
theorem ANi(nm:ByteArray)(a:Option Addr)(cap:Nat)(L:List AP)(Ch:nm.data.toList.length≤1000)(hn:L.length≤1000)(hs:∀x,x∈L→x.AT.length≤1000)(hF:BW S)(hv:EG S (.slice a L.length cap) L):CC Tryz.prog KK 14 [AX [.string nm,.slice a L.length cap]] S (fun v S'=>AL S S'∧(eT S' nm L v)):=by
 refine ce 96 Tryz.func14 fun hl=>?_;refine zg ?_;refine bL hl fun B1 S1 hl=>?_;refine zg ?_
 refine zc hl rfl (AAG nm a cap L Ch hn hs (hv.move (hl.since 0 rfl))) ?_;rintro v S2 AM rfl hl
 refine zg ?_
 constructor<;>intro Dy
 ·
  refine zg ?_
  exact z2 rfl rfl ⟨hl.AD,.inl ⟨by simpa using Dy,rfl⟩⟩
 have h0:(Dw nm.data.toList L).2=0:=by simpa using Dy
 obtain⟨hc,G1⟩:=sF h0
 have A4:=sA (fQ h0)
 rw[hc]
 refine Ar rfl ?_;refine zS ?_;refine AG rfl ?_;refine zS ?_;refine Az rfl ?_
 have hl:=hl.D2 (g:=T' nm none []) (.inl ⟨rfl,rfl,rfl⟩)
 refine AK (L':=[(7,.int .i64 0),(6,.slice none 0 0),(4,.int .i64 (BR L:Int)),(3,.int .i64 0),(2,.slice none 0 0),(1,ptrTo B1 0)]) sE ?_
 refine A2 rfl (fun m Le S'=>∃(i:Nat) (av:Option Addr) (P:List Pr),i≤BR L∧m=BR L-i∧P.length≤i∧P.map Pr.C=Eo nm.data.toList L i∧(∀x,x∈P→x.Ok S')∧(∀x,x∈P→x.C.length≤1000)∧Af [(7,.int .i64 (i:Int)),(6,.slice av P.length P.length),(4,.int .i64 (BR L:Int)),(3,.int .i64 0),(2,.slice none 0 0),(1,ptrTo B1 0)] Le∧AE S [S] S' [(B1,.cells [.string nm,.slice a L.length cap] 24 false true [])] [T' nm av P]) ?_ (m:=BR L) ⟨0,none,[],AA,AA,by simp,rfl,fun x hx=>(List.not_mem_nil hx).elim,fun x hx=>(List.not_mem_nil hx).elim,sE,hl⟩
 clear hl;rintro m Le Sx ⟨i,av,P,hi,rfl,UJ,KG,DC,H8,AH,hl⟩;refine AK AH ?_
 refine zg ?_
 constructor<;>intro C3
 ·
  have AN:i<BR L:=dT C3
  have GJ:=hl
  have h3:=hl.at_ B1 _ Al
  have hd:At Sx B1 (.cells [.string nm,.slice a L.length cap] 24 false true []):=⟨fun g=>(g.2 B1 h3.2.2).trans h3.1⟩
  have XK:=hv.move (hl.since 0 rfl)
  have hFx:=hl.AD.3 hF
  clear hl
  have hl:=BE.start Sx
  refine zg ?_;refine mr hl rfl rfl rfl rfl rfl rfl rfl rfl rfl Tryz.underlying38 (z:= .int .i64 0) AB AB (by unfold Ae;omega) ?_;intro OT S6 hl
  have hO:Ic (.slice (some ⟨OT,0,none⟩) (List.replicate L.length (0:Int)).length (List.replicate L.length (0:Int)).length) (List.replicate L.length 0) [(OT,.cells (EE L.length (BG (.int .i64 0))) 3 true true [])]:= .inr ⟨OT,[],rfl,by rw[HF (f:=ic) (z:=1) (fun _=>rfl)],by rw[←cU];rfl,fun _ h=>(List.not_mem_nil h).elim⟩
  have hl:AE Sx [Sx] S6 ([]++([(OT,.cells (EE L.length (BG (.int .i64 0))) 3 true true [])]++[])) []:=hl
  generalize [(OT,AF.cells (EE L.length (BG (.int .i64 0))) 3 true true [])]=fW at hO hl
  refine zA ?_;refine AG rfl ?_;refine zS ?_;refine Az rfl ?_;refine AK (L':=[(10,.int .i64 ((L.length:Int)-1)),(9,.slice (some ⟨OT,0,none⟩) (List.replicate L.length (0:Int)).length (List.replicate L.length (0:Int)).length),(8,.int .i64 (i:Int)),(7,.int .i64 (i:Int)),(6,.slice av P.length P.length),(4,.int .i64 (BR L:Int)),(3,.int .i64 0),(2,.slice none 0 0),(1,ptrTo B1 0)]) ⟨rfl,by rw[List.length_replicate];rfl,rfl,rfl,rfl,rfl,rfl,rfl,rfl,trivial⟩ ?_
  refine A2 rfl (fun m Le S'=>∃(j:Nat) (W:List Int) (fW:List (Nat×AF)),j≤L.length∧m=j∧W.length=L.length∧W.drop j=(dg (L.drop j) i).1.map nc∧(dg (L.drop j) i).2≤i∧Ic (.slice (some ⟨OT,0,none⟩) W.length W.length) W fW∧Af [(10,.int .i64 ((j:Int)-1)),(9,.slice (some ⟨OT,0,none⟩) W.length W.length),(8,.int .i64 ((dg (L.drop j) i).2:Int)),(7,.int .i64 (i:Int)),(6,.slice av P.length P.length),(4,.int .i64 (BR L:Int)),(3,.int .i64 0),(2,.slice none 0 0),(1,ptrTo B1 0)] Le∧AE Sx [Sx] S' ([]++(fW++[])) []) ?_ (m:=L.length) ⟨L.length,_,fW,AA,AA,List.length_replicate,by rw[List.drop_length,List.drop_eq_nil_of_le (by rw[List.length_replicate];omega)];rfl,by rw[List.drop_length];exact Nat.le_refl _,hO,⟨rfl,rfl,by rw[List.drop_length];rfl,rfl,rfl,rfl,rfl,rfl,rfl,trivial⟩,hl⟩
  clear hl hO fW;rintro m Le S' ⟨m,W,fW,hj,rfl,hW,Z',Nh,hO,PD,hl⟩;refine AK PD ?_
  refine zg ?_
  constructor<;>intro DB
  ·
   obtain⟨j,rfl⟩:∃j,m=j+1:=⟨m-1,dT DB⟩
   have e1:((j+1:Nat):Int)-1=(j:Int):=by omega
   rw[e1]
   obtain⟨x,hx⟩:=Ad (show j<L.length by omega)
   have FH:=hs x (BV hx)
   have vW:=A4 x (BV hx)
   have hdj:=C9 hx
   generalize hQ:dg (L.drop (j+1)) i=Q at Z' Nh ⊢
   have iW:dg (L.drop j) i=((Q.2%A6 x)::Q.1,Q.2/A6 x):=by rw[hdj,dg,hQ]
   have vG:=IV (a:=(Q.2:Int)) (b:=(A6 x:Int)) AA AA
   have hqb:=Hn (a:=(Q.2:Int)) (b:=(A6 x:Int)) AA AA
   obtain⟨b1,o1,BF,a1,c1,ha,AQ,Aa,Fm⟩:=XK.elem hx
   refine zg ?_
   refine zc hl rfl (YT a1 x.AT.length c1 x.blank FH) ?_;rintro v GB AM D4 hl
   have D4:v= .int .i64 (EM x):=D4
   rw[YP]at D4
   subst D4
   refine zg ?_
   have e2:0+(j:Int).toNat*1=j:=by omega
   rw[e2]
   obtain⟨bx,S7,f3,e3,Cc,Ej,W3⟩:=Yc (P:=Tryz.prog) hl hO AA rfl (t:=3) (u:= .int .i64 (((Q.2:Int)).tmod (A6 x:Int))) AB (VK (g:=fun x=>Value.int .i64 x) (((Q.2:Int)).tmod (A6 x:Int)) (k:=j) AA) ((HF (f:=fun x=>[Value.int .i64 x]) (z:=1) (fun _=>rfl) _).trans ((congrArg (· *1) (I' ..)).trans (HF (f:=ic) (z:=1) (fun _=>rfl) _).symm))
   cases e3
   refine R0 rfl rfl rfl rfl rfl rfl Cc ?_
   clear hl Cc
   have hl:=W3
   refine zg ?_
   refine zc hl rfl (YT a1 x.AT.length c1 x.blank FH) ?_;rintro v Km ED D4 hl
   have D4:v= .int .i64 (EM x):=D4
   rw[YP]at D4
   subst D4
   refine zg ?_
   exact⟨j,AA,j,W.set j (((Q.2:Int)).tmod (A6 x:Int)),f3,AA,rfl,by rw[I'];exact hW,by
    rw[iW,List.map_cons,←Z']
    have O7:j<(W.set j (((Q.2:Int)).tmod (A6 x:Int))).length:=by rw[I'];omega
    rw[List.drop_eq_getElem_cons O7,List.getElem_set_self,List.drop_set_of_lt AA]
    rfl,by rw[iW];exact Nat.le_trans (Nat.div_le_self ..) Nh,by unfold Ic;rw[I'];exact Ej,⟨rfl,by rw[I'];rfl,by rw[iW];rfl,rfl,rfl,rfl,rfl,rfl,rfl,trivial⟩,hl⟩
  have HJ:m=0:=dF DB
  subst HJ
  rw[List.drop_zero,List.drop_zero]at Z'
  subst Z'
  have Q0:=OW.at_ (f:=ic) (fun _=>rfl) hO hl Jg
  have DC:=fun x hx=>(DC x hx).move (hl.since 0 rfl)
  have hl:=GJ.call hl.AD
  clear hO hj PD hd GJ AH Nh
  have AGL:=fY L i
  refine zg ?_
  refine zc hl rfl (AOQ nm a cap L _ _ (dg L i).1 hn AGL hs (hl.AD.3 hF) (hv.move (hl.since 0 rfl)) Q0) ?_;rintro v S5 W0 ⟨ap,cp,rfl,hR⟩ hl
  have DC:=fun x hx=>(DC x hx).move (AL.rk W0)
  have Dp:=xb L (dg L i).1
  obtain⟨p,hp⟩:∃p,mk L (dg L i).1=p:=⟨_,rfl⟩
  rw[hp]at hR Dp ⊢
  have hl:=hl.mark
  refine aL hl ([.string ⟨#[]⟩,.slice none 0 0]) fun Vt Km hl=>?_;refine sL hl 0 [.string nm,.slice ap p.length cp] fun Ko hl=>?_;refine zA ?_;refine zS ?_;refine AG rfl ?_;refine zS ?_;refine Az rfl ?_;refine AK (L':=[(13,.int .i64 0),(12,.bool false),(11,ptrTo Vt 0),(7,.int .i64 (i:Int)),(6,.slice av P.length P.length),(4,.int .i64 (BR L:Int)),(3,.int .i64 0),(2,.slice none 0 0),(1,ptrTo B1 0)]) sE ?_
  refine A2 rfl (fun m Le S'=>∃(k:Nat),k≤P.length∧m=P.length-k∧Af [(13,.int .i64 (k:Int)),(12,.bool (decide (p∈(P.take k).map Pr.C))),(11,ptrTo Vt 0),(7,.int .i64 (i:Int)),(6,.slice av P.length P.length),(4,.int .i64 (BR L:Int)),(3,.int .i64 0),(2,.slice none 0 0),(1,ptrTo B1 0)] Le∧AE S [S5,S] S' [(Vt,.cells [.string nm,.slice ap p.length cp] 44 false true []),(B1,.cells [.string nm,.slice a L.length cap] 24 false true [])] [T' nm av P]) ?_ (m:=P.length) ⟨0,AA,AA,⟨rfl,by rw[List.take_zero];rfl,rfl,rfl,rfl,rfl,rfl,rfl,rfl,trivial⟩,hl⟩
  clear hl;rintro m Le S' ⟨k,hk,rfl,AH,hl⟩;refine AK AH ?_
  refine AG rfl ?_;refine AG rfl (CR hl 71 (.bool (decide ((k:Int)<(P.length:Int))&&!decide (p∈(P.take k).map Pr.C))) ?_ rfl ?_)
  ·
   refine zg ?_;refine AZ (d:=68) rfl (fun Gd=>?_) (fun Gd=>?_)
   ·
    refine zg ?_;refine rr rfl (BY rfl rfl rfl) ?_;refine zg ?_
    exact⟨rfl,bl (by rw[Gd];rfl),sB,hl⟩
   refine zg ?_
   exact⟨rfl,bl (by rw[Gd];rfl),sB,hl⟩
  clear hl;intro S7 hl
  refine zg ?_
  constructor<;>intro tp
  ·
   have gq:=tp
   rw[Bool.and_eq_true]at gq
   have G3:k<P.length:=by have:=I6 gq.1;omega
   have hB:decide (p∈(P.take k).map Pr.C)=false:=by simpa using gq.2
   obtain⟨y,hy⟩:=Ad G3
   have XM:=DC y (BV hy)
   have Nr:=H8 y (BV hy)
   have hl:=hl.mark
   obtain⟨b1,o1,BF,ha,_,AQ,Aa⟩:=(Am.ls (f:=Pr.cells nm) (fun _=>rfl) (hl.gr _ Al)).elem hy
   refine zg ?_;refine BC (idx:=[0,1,2,3,4,5,6]) rfl AB AB ?_;refine zg ?_
   refine zp hl rfl (AOR nm y.a ap y.c cp y.C p Nr (hl.AD.3 hF) (XM.move (hl.since 1 rfl)) (hR.move (hl.since 1 rfl))) ?_;rintro v S8 iq rfl hl;refine⟨zt,?_⟩
   refine zg ?_
   exact⟨P.length-(k+1),AA,k+1,AA,rfl,⟨rfl,by rw[AIh hy hB];rfl,rfl,rfl,rfl,rfl,rfl,rfl,rfl,trivial⟩,hl.marks (Us:=[S5,S]) (fun T hT=>BQ hT)⟩
  rw[AIi tp]
  have hl:=hl.mark
  refine zg ?_
  refine zc hl rfl (oG nm ap cp p Ch AA (hR.move (hl.since 1 rfl))) ?_;rintro v S8 iq rfl hl
  refine zA ?_;refine AG rfl (CR hl 90 (.bool (Jl nm.data.toList p&&!decide (p∈P.map Pr.C))) ?_ rfl ?_)
  ·
   refine zg ?_;refine AZ (d:=87) rfl (fun KF=>?_) (fun KF=>?_)
   ·
    refine zg ?_;refine rr rfl (BY rfl rfl rfl) ?_;refine zg ?_
    exact⟨rfl,bl (by unfold Jl;rw[KF];rfl),sB,hl⟩
   refine zg ?_
   exact⟨rfl,bl (by unfold Jl;rw[KF];rfl),sB,hl⟩
  clear hl;intro S9 hl
  have BL:Eo nm.data.toList L (i+1)=Gq nm.data.toList (P.map Pr.C) p:=by rw[KG,←hp];rfl
  refine zg ?_
  constructor<;>intro Z7
  ·
   obtain⟨y,hy⟩:∃y:Pr,y=⟨ap,cp,p⟩:=⟨_,rfl⟩
   have FI:[Value.string nm,.slice ap p.length cp]=y.cells nm:=by rw[hy];rfl
   refine zg ?_;refine Ry hl rfl rfl rfl rfl rfl Tryz.underlying33 rfl (c:=y.cells nm) (by rw[←FI];kernel_rfl) ?_;intro B93 Sa AHK hl;refine DZ hl 0 rfl rfl (by simp) rfl rfl rfl rfl rfl rfl rfl Tryz.underlying33 Tryz.underlying33 rfl rfl AB (Cj (n:=1) (cap:=1) (new:=y.cells nm) AHK rfl) rfl rfl AB (by show P.length+1≤Ae;unfold Ae;omega) ?_;intro v94 Sb hl
   obtain⟨As,rfl⟩:∃x,v94= .slice x (P.length+1) (P.length+1):=Am.C5 (hl.gr _ Al)
   have hl:AE S [S7,S5,S] Sb _ [T' nm As (P++[y])]:=AFu hl
   refine zg ?_
   refine⟨BR L-(i+1),AA,i+1,As,P++[y],AA,rfl,by rw[A8];omega,by rw[BL,Hm,Gq,Z7,hy];rfl,fun z hz=>?_,fun z hz=>?_,⟨rfl,by rw[A8 P y];rfl,rfl,rfl,rfl,rfl,trivial⟩,(hl.marks (Us:=[S]) (fun T hT=>BQ (BQ hT))).tail⟩
   ·rcases List.mem_append.1 hz with h|h
    ·exact(DC z h).move (hl.since 1 rfl)
    rw[List.mem_singleton.1 h,hy]
    exact A0.move (hl.since 1 rfl) hR
   rcases List.mem_append.1 hz with h|h
   ·exact H8 z h
   rw[List.mem_singleton.1 h,hy]
   show p.length≤1000
   omega
  refine zg ?_
  exact⟨BR L-(i+1),AA,i+1,av,P,AA,rfl,AA,by rw[BL,Gq,Z7];rfl,fun z hz=>(DC z hz).move (hl.since 1 rfl),H8,sE,(hl.marks (Us:=[S]) (fun T hT=>BQ (BQ hT))).tail⟩
 have DH:i=BR L:=dF C3
 subst DH
 refine zg ?_
 exact y2 rfl rfl ⟨hl.AD,.inr ⟨h0,av,P,rfl,Am.ls (f:=Pr.cells nm) (fun _=>rfl) (hl.gr _ Al),DC,KG,AA,H8⟩⟩
end Go.Proofs.YtmfphenhpkgidaaGreatDoor
namespace Go.Proofs.YtmfphenhpkgidaaGreatDoor
open Go.Cm Go
set_option maxRecDepth 100000
variable{S:St}
set_option maxHeartbeats 4000000 in
theorem AOM(nm:ByteArray)(a:Option Addr)(cap:Nat)(L:List AP)(b:Option Addr)(cb:Nat)(cs:List Nat)(hn:L.length≤1000)(Hf:cs.length=L.length)(hs:∀x,x∈L→x.AT.length≤1000)(hF:BW S)(hv:EG S (.slice a L.length cap) L)(hw:CZ S (.slice b (cs.map nc).length cb) (cs.map nc)):CC Tryz.prog KK 42 [AX [.string nm,.slice a L.length cap],.slice b (cs.map nc).length cb] S (fun v S'=>AL S S'∧(∃ap cp,v=AX [.string nm,.slice ap (mk L cs).length cp]∧CW S' (.slice ap (mk L cs).length cp) (mk L cs))):=by
 refine ce 43 Tryz.func42 fun hl=>?_
 have RV:(L.zip cs).length=L.length:=by rw[List.length_zip];omega
 have LB:(cs.map nc).length=L.length:=by rw[D1];omega
 refine zg ?_;refine bL hl fun B2 S2 hl=>?_;refine aL hl ([.string ⟨#[]⟩,.slice none 0 0]) fun B4 S4 hl=>?_;refine zg ?_;refine rr rfl (A9 rfl rfl (v:=AX [.string nm,.slice none 0 0]) (by rfl)) ?_;refine aL hl ([.string ⟨#[]⟩,.slice none 0 0]) fun B5 S5 hl=>?_;refine sL hl 0 [.string nm,.slice none 0 0] fun S6 hl=>?_;refine zA ?_;refine AG rfl ?_;refine zS ?_;refine Az rfl ?_
 have hl:=hl.D2 (g:=gG none []) (.inl ⟨rfl,rfl,rfl⟩)
 refine AK (L':=[(13,.int .i64 0),(12,.int .i64 (cs.map nc).length),(11,.slice b (cs.map nc).length cb),(5,ptrTo B5 0),(4,ptrTo B4 0),(2,ptrTo B2 0)]) sE ?_
 refine A2 rfl (fun m Le S'=>∃(i:Nat) (av:Option Addr) (D:List Sg),i≤L.length∧m=L.length-i∧D.length≤i∧D=IL ((L.zip cs).take i)∧Af [(13,.int .i64 (i:Int)),(12,.int .i64 (cs.map nc).length),(11,.slice b (cs.map nc).length cb),(5,ptrTo B5 0),(4,ptrTo B4 0),(2,ptrTo B2 0)] Le∧AE S [S] S' [(B5,.cells [.string nm,.slice av D.length D.length] 44 false true []),(B4,.cells [.string ⟨#[]⟩,.slice none 0 0] 44 false true []),(B2,.cells [.string nm,.slice a L.length cap] 24 false true [])] [gG av D]) ?_ (m:=L.length) ⟨0,none,[],AA,AA,by simp,rfl,sE,hl⟩
 clear hl;rintro m Le S' ⟨i,av,D,hi,rfl,MC,hD,AH,hl⟩;refine AK AH ?_
 refine zg ?_
 constructor<;>intro BZ
 ·
  have AN:i<L.length:=dT BZ
  obtain⟨x,hx⟩:=Ad AN
  obtain⟨k,hk⟩:=Ad (show i<cs.length by omega)
  have FH:=hs x (BV hx)
  have Hj:nth (cs.map nc) i=some (k:Int):=by rw[CE,List.getElem?_map,←CE,hk];rfl
  have hz:=lf (p5 hx hk)
  obtain⟨b1,o1,BF,a1,c1,ha,AQ,Aa,Fm⟩:=hv.elem hx
  obtain⟨b2,o2,EH,FD,_,GK,F0⟩:=hw.elem Hj
  refine zg ?_
  constructor<;>intro FA
  ·
   have RD:k<x.AT.length:=dT FA
   obtain⟨s,Jd⟩:=Ad RD
   have No:FJ x k= [s]:=by unfold FJ;rw[Jd]
   have Fm:CW S (.slice a1 x.AT.length c1) x.AT:=Fm
   obtain⟨b3,o3,H3,Is,_,Ix,IE⟩:=Fm.elem Jd
   refine BC (idx:=[0,1,2,3,4,5,6,7,8,9,10,11,12,13,14]) rfl AB AB ?_;refine zg ?_;refine MX hF hl rfl rfl rfl rfl rfl Tryz.underlying42 rfl (c:=s.cells) AB ?_;intro B43 S7 AGW jK hl
   refine VG hl 0 rfl rfl (by simp) rfl rfl rfl rfl rfl rfl rfl Tryz.underlying42 Tryz.underlying42 rfl rfl AB (Cj (n:=1) (cap:=1) (new:=s.cells) jK rfl) rfl rfl AB (by show D.length+1≤Ae;unfold Ae;omega) ?_;intro oq S8 hl;refine⟨zt,?_⟩
   obtain⟨As,rfl⟩:∃x,oq= .slice x (D.length+1) (D.length+1):=Am.C5 (hl.gr _ Al)
   have hl:AE S [S] S8 _ [gG As (D++[s])]:=Zv hl
   refine zg ?_
   refine pL hl 0 [.string nm,.slice As (D.length+1) (D.length+1)] (h:=fun S9 hl=>⟨zt,?_⟩)
   refine zg ?_
   exact⟨L.length-(i+1),AA,i+1,As,D++[s],AA,rfl,by rw[A8];omega,by rw[hz,No,←hD],sE,by rw[A8];exact hl⟩
  have No:FJ x k= []:=by
   unfold FJ
   rw[CE,List.getElem?_eq_none (dF FA)]
  refine zg ?_
  exact⟨L.length-(i+1),AA,i+1,av,D,AA,rfl,AA,by rw[hz,No,←hD,List.append_nil],sE,hl⟩
 have DH:i=L.length:=dF BZ
 subst DH
 have Qw:D=mk L cs:=by rw[hD,←RV,List.take_length];rfl
 clear hD
 subst Qw
 have hR:=Am.ls (f:=Sg.cells) (fun _=>rfl) (hl.gr _ Al)
 have hl:=hl.mark
 refine zg ?_;refine sL hl 1 [.string nm,.slice av (mk L cs).length (mk L cs).length] fun S9 hl=>?_;refine zg ?_
 exact BA (Bm rfl (lN (z:=2) (hl.get 1 rfl) rfl) rfl) ⟨hl.AD,av,(mk L cs).length,rfl,hR.move (hl.since 0 rfl)⟩
end Go.Proofs.YtmfphenhpkgidaaGreatDoor
namespace Go.Proofs.YtmfphenhpkgidaaGreatDoor
open Go.Cm Go
set_option maxRecDepth 100000
variable{S:St}
theorem AI5(x:Value)(S:St):CC Tryz.prog KK 92 [x] S (fun v S'=>AL S S'∧v=x):=by
 have h:KK.ext 92 [x] S=some (x,S):=rfl
 refine⟨0,x,S,?_,AL.refl S,rfl⟩
 show Kz Tryz.prog KK (fns Tryz.prog KK 0) 92 [x] S=_
 unfold Kz
 rw[Tryz.func92]
 show(match KK.ext 92 [x] S with
  |some (v,S')=>some (Ending.returned v,S')
  |none=>none)=_
 rw[h]
def Qe(pa:Value)(a:Option Addr)(n:Nat):List Value:=[pa,.slice a n n]
theorem AE3{S:St}{B:Nat}{x y:Value}(hg:S.get B=some (.cells [x,y] 80 false true [])):L4 Tryz.prog S 77 150 (ptrTo B 0)=some (ptrTo B 0,S):=by
 have h1:A5 Tryz.prog 80=some 2:=by kernel_rfl
 unfold L4 ptrTo
 simp only[Tryz.underlying77,Tryz.underlying150,h1,hg]
 rfl
theorem AE1{S:St}{B:Nat}{x y:Value}(hg:S.get B=some (.cells [x,y] 80 false true [])):L4 Tryz.prog S 150 77 (ptrTo B 0)=some (ptrTo B 0,S):=by
 have h1:A5 Tryz.prog 80=some 2:=by kernel_rfl
 have h2:(!(Nat.beq 80 0)&&liesAt Tryz.prog Tryz.prog.depth 80 (2/Tryz.prog.cellsOf 80) 0 80 1)=true:=by kernel_rfl
 unfold L4 ptrTo
 simp only[Tryz.underlying77,Tryz.underlying150,h1,hg]
 show(bif (!(Nat.beq 80 0)&&liesAt Tryz.prog Tryz.prog.depth 80 (2/Tryz.prog.cellsOf 80) 0 80 1)then _ else _)=_
 rw[h2]
 rfl
theorem AJa{B:Nat}:Cl Tryz.prog E' 77 (ptrTo B 0) (ptrTo B 0)=some true:=by
 have h1:(Tryz.prog.info? 80).isSome=true:=by kernel_rfl
 show Cl Tryz.prog 40 77 (ptrTo B 0) (ptrTo B 0)=some true
 unfold Cl ptrTo
 simp only[Tryz.underlying77,IN,h1]
 rfl
theorem AJb{B:Nat}{xo yo:Operand}:Fy Tryz.prog .neq 77 xo yo (ptrTo B 0) (ptrTo B 0)=some (.bool false):=by
 have hg:Tryz.prog.eqGuardType Tryz.prog.depth 77=false:=by kernel_rfl
 have h:=AJa (B:=B)
 unfold ptrTo at h ⊢
 unfold Fy
 simp only[Ox]
 rw[h]
 rfl
theorem AOb(S0:St)(Ts:List St)(l:List (Nat×AF))(gs:List Gr)(B:Nat)(pa:Value)(a:Option Addr)(n:Nat)(W9:pa= .pointer none∨pa=ptrTo B 0)(hl:AE S0 Ts S ([(B,.cells (Qe pa a n) 80 false true [])]++l) gs):CC Tryz.prog KK 71 [ptrTo B 0] S (fun v S'=>v=Aw []∧AE S0 Ts S' ([(B,.cells (Qe (ptrTo B 0) a n) 80 false true [])]++l) gs):=by
 refine ce 20 Tryz.func71 fun _=>?_
 have hl:AE S0 Ts S ((B,.cells [pa,.slice a n n] 80 false true [])::l) gs:=hl
 rcases W9 with rfl|rfl
 ·
  refine zg ?_;refine rr rfl (CU rfl rfl (l1 (hl.get 0 rfl) rfl)) ?_;refine zg ?_;refine Rz rfl rfl rfl rfl rfl (v:=ptrTo B 0) (S':=S) rfl (AE3 (hl.get 0 rfl)) ?_
  refine zc hl rfl (AI5 _ _) ?_;rintro v S1 AM rfl hl
  refine Rz rfl rfl rfl rfl rfl (v:=ptrTo B 0) (S':=S1) rfl (AE1 (hl.get 0 rfl)) ?_;refine zg ?_;refine sL hl 0 [ptrTo B 0,.slice a n n] fun S2 hl=>?_;refine zg ?_
  exact On rfl ⟨rfl,hl⟩
 refine zg ?_;refine rr rfl (CU rfl rfl (l1 (hl.get 0 rfl) rfl)) ?_;refine zg ?_;refine rr rfl (CU rfl rfl (l1 (hl.get 0 rfl) rfl)) ?_;refine zg ?_;refine rr rfl (Ao rfl rfl rfl AJb) ?_;refine zg ?_
 exact On rfl ⟨rfl,hl⟩
def G'(n:Int):List Value:=[.int .u8 n]
abbrev QY(v:Value)(C:List Int)(fr:List (Nat×AF)):Prop:=OW v 5 1 ((C.map G').flatten) C.length fr
theorem ASL{a:Option Addr}{C:List Int}{x:Int}{fr:List (Nat×AF)}(h:OW (.slice a (C.length+1) (C.length+1)) 5 1 ((C.map G').flatten++G' x) (C.length+1) fr):QY (.slice a (C++[x]).length (C++[x]).length) (C++[x]) fr:=OW.push h
theorem AOc(S0:St)(q l:List (Nat×AF))(a:Option Addr)(D:List Int)(fb:List (Nat×AF))(r:Int)(vD:0≤r)(RL:r≤127)(hD:D.length≤1000)(hO:QY (.slice a D.length D.length) D fb)(hl:AE S0 [S0] S (q++(fb++l)) []):CC Tryz.prog KK 72 [.slice a D.length D.length,.int .i32 r] S (fun v S'=>∃a2 K1,v= .slice a2 (D++[r]).length (D++[r]).length∧QY (.slice a2 (D++[r]).length (D++[r]).length) (D++[r]) K1∧AE S0 [S0] S' (q++(K1++l)) []):=by
 refine ce 16 Tryz.func72 fun _=>?_
 have hw1:IntKind.u32.wrap r=r:=by
  unfold IntKind.wrap
  simp[IntKind.bits,IntKind.signed]
  omega
 have PG:IntKind.u8.wrap r=r:=by
  unfold IntKind.wrap
  simp[IntKind.bits,IntKind.signed]
  omega
 refine zg ?_;refine Rz rfl rfl rfl rfl rfl (v:= .int .u32 (IntKind.u32.wrap r)) (S':=S) rfl rfl ?_
 rw[hw1]
 refine zg ?_
 constructor<;>intro h7
 ·
  refine zg ?_;refine Rz rfl rfl rfl rfl rfl (v:= .int .u8 (IntKind.u8.wrap r)) (S':=S) rfl rfl ?_
  rw[PG]
  refine dL hl (G' r) Tryz.underlying78 fun Vt S1 AGt hl=>?_;refine VC hl hO rfl rfl rfl rfl rfl rfl rfl Tryz.underlying78 Tryz.underlying78 rfl rfl (by decide) AB (Cj (n:=1) (cap:=1) (new:=G' r) AGt rfl) rfl rfl AB (by show D.length+1≤Ae;unfold Ae;omega) ?_;intro v12 f2 S2 Ei hl
  obtain⟨a2,rfl⟩:=Ei.is
  have Ei:=ASL Ei
  have e2:D.length+1=(D++[r]).length:=(A8 ..).symm
  rw[e2]
  refine zg ?_
  exact z1 rfl ⟨a2,f2,rfl,Ei,hl⟩
 have h7:=Jk h7
 omega
end Go.Proofs.YtmfphenhpkgidaaGreatDoor
namespace Go.Proofs.YtmfphenhpkgidaaGreatDoor
open Go.Cm Go
set_option maxRecDepth 100000
variable{S:St}
theorem AON(S0:St)(B:Nat)(pa:Value)(a:Option Addr)(D:List Int)(fb:List (Nat×AF))(r:Int)(W9:pa= .pointer none∨pa=ptrTo B 0)(vD:0≤r)(RL:r≤127)(hD:D.length≤1000)(hO:QY (.slice a D.length D.length) D fb)(hl:AE S0 [S0] S ([(B,.cells (Qe pa a D.length) 80 false true [])]++(fb++[])) []):CC Tryz.prog KK 43 [ptrTo B 0,.int .i32 r] S (fun v S'=>∃(k:Int) (a2:Option Addr) (K1:List (Nat×AF)),v=Aw [.int .i64 k,.nilIface]∧QY (.slice a2 (D++[r]).length (D++[r]).length) (D++[r]) K1∧AE S0 [S0] S' ([(B,.cells (Qe (ptrTo B 0) a2 (D++[r]).length) 80 false true [])]++(K1++[])) []):=by
 refine ce 30 Tryz.func43 fun _=>?_;refine zg ?_
 refine D5 rfl rfl rfl rfl rfl rfl rfl (C8 (AOb S0 [S0] (fb++[]) [] B pa a D.length W9 hl) ?_);rintro v S1 ⟨rfl,hl⟩
 have hl:AE S0 [S0] S1 ((B,.cells [ptrTo B 0,.slice a D.length D.length] 80 false true [])::(fb++[])) []:=hl
 refine zg ?_
 refine D5 rfl rfl rfl rfl rfl rfl rfl (C8 (AOc S0 [(B,.cells [ptrTo B 0,.slice a D.length D.length] 80 false true [])] [] a D fb r vD RL hD hO hl) ?_);rintro v S2 ⟨a2,K1,rfl,Ei,hl⟩
 have hl:AE S0 [S0] S2 ((B,.cells [ptrTo B 0,.slice a D.length D.length] 80 false true [])::(K1++[])) []:=hl
 have Nk:(D++[r]).length=D.length+1:=A8 ..
 refine zg ?_;refine sL hl 0 ([ptrTo B 0,.slice a2 (D++[r]).length (D++[r]).length]) fun S3 hl=>?_
 have hl:AE S0 [S0] S3 ((B,.cells [ptrTo B 0,.slice a2 (D++[r]).length (D++[r]).length] 80 false true [])::(K1++[])) []:=hl
 refine zg ?_
 exact y2 rfl rfl ⟨_,a2,K1,rfl,Ei,hl⟩
def Og(D:List Int):List UInt8:=D.map fun n=>UInt8.ofNat n.toNat
theorem ra:∀(D:List Int),NQ ((D.map G').flatten)=some (Og D)
 | []=>rfl
 |n::D=>by
  show(match NQ ((D.map G').flatten)with
   |some l=>some (UInt8.ofNat n.toNat::l)
   |none=>none)=_
  rw[ra D]
  rfl
theorem ANA{S:St}{b m:Nat}{ts:List TypeId}(h:0<m):ER Tryz.prog .unsafeSliceData ts [.slice (some ⟨b,0,none⟩) m m] S=some (ptrTo b 0,S):=by
 cases m with
 |zero=>omega
 |succ m=>rfl
theorem ASP{S:St}{b:Nat}{D:List Int}{kin:List Nat}(hg:S.get b=some (.cells ((D.map G').flatten) 5 true true kin))(h0:0<D.length)(h1:D.length≤1000):ER Tryz.prog .unsafeString [114,3] [ptrTo b 0,.int .i64 (D.length:Int)] S=some (.string ⟨(Og D).toArray⟩,(S.kill kin).set b (.cells ((D.map G').flatten) 5 true false [])):=by
 obtain⟨k,hk⟩:∃k,D.length=k+1:=⟨D.length-1,AA⟩
 have hl:((D.map G').flatten).length=k+1:=by rw[HF (f:=G') (z:=1) (fun _=>rfl)];omega
 have ht:takeN (k+1) (CH 0 ((D.map G').flatten))=some ((D.map G').flatten):=by
  show takeN (k+1) ((D.map G').flatten)=_
  rw[←hl]
  exact oR _
 have hb:(Nat.beq 5 5&&!(Nat.beq 5 0)&&Nat.beq (Tryz.prog.cellsOf 5) 1&&Nat.blt k 1000000)=true:=by
  have e1:(Nat.beq 5 5&&!(Nat.beq 5 0)&&Nat.beq (Tryz.prog.cellsOf 5) 1)=true:=by kernel_rfl
  have e2:Nat.blt k 1000000=true:=by
   unfold Nat.blt
   exact Nat.ble_eq_true_of_le AA
  rw[e1,e2]
  rfl
 rw[hk]
 show Yi Tryz.prog [114,3] (ptrTo b 0) (Int.ofNat (k+1)) S=_
 unfold Yi ptrTo
 simp only[Tryz.underlying114,hg]
 rw[hb,ht]
 show(match NQ ((D.map G').flatten)with
  |some bs=>some (Value.string ⟨bs.toArray⟩,(S.kill kin).set b (.cells ((D.map G').flatten) 5 true false []))
  |none=>none)=_
 rw[ra]
theorem AOP(S0:St)(B:Nat)(pa:Value)(a:Option Addr)(D:List Int)(fb:List (Nat×AF))(hD:D.length≤1000)(ha:D.length=0→a=none)(hO:QY (.slice a D.length D.length) D fb)(hl:AE S0 [S0] S ([(B,.cells (Qe pa a D.length) 80 false true [])]++(fb++[])) []):CC Tryz.prog KK 46 [ptrTo B 0] S (fun v S'=>v= .string ⟨(Og D).toArray⟩∧AL S0 S'):=by
 refine ce 14 Tryz.func46 fun _=>?_
 have hl:AE S0 [S0] S ((B,.cells [pa,.slice a D.length D.length] 80 false true [])::(fb++[])) []:=hl
 refine zg ?_;refine BC (idx:=[0,1,2,3,5,6,7,8,9,4,10,11]) rfl AB AB ?_;refine zg ?_
 rcases hO with ⟨h1,h2,h3,rfl⟩|⟨b,dd,h1,h2,rfl,_⟩
 ·
  obtain rfl:D= []:=List.eq_nil_of_length_eq_zero h3
  cases h1
  refine YF rfl rfl rfl rfl rfl rfl rfl (v:= .pointer none) (S':=S) rfl ⟨zt,?_⟩
  refine YF rfl rfl rfl rfl rfl rfl rfl (v:= .string ⟨#[]⟩) (S':=S) rfl ⟨zt,?_⟩
  refine zg ?_
  exact y1 rfl ⟨rfl,hl.AD⟩
 obtain⟨rfl⟩:a=some ⟨b,0,none⟩:=by cases h1;rfl
 have h0:0<D.length:=by
  rcases Nat.eq_zero_or_pos D.length with h|h
  ·exact absurd (ha h) (by simp)
  exact h
 have hl:AE S0 [S0] S ([(B,.cells [pa,.slice (some ⟨b,0,none⟩) D.length D.length] 80 false true [])]++(b,.cells ((D.map G').flatten) 5 true true (dd.map (·.1)))::dd) []:=hl.perm (.of_eq (by rw[List.append_nil];rfl))
 refine YF rfl rfl rfl rfl rfl rfl rfl (ANA h0) ⟨zt,?_⟩
 have hg:=hl.get 1 rfl
 have hl:=hl.mi (.cells ((D.map G').flatten) 5 true false [])
 refine YF rfl rfl rfl rfl rfl rfl rfl (ASP hg h0 hD) ⟨zt,?_⟩
 refine zg ?_
 exact y1 rfl ⟨rfl,hl.AD⟩
end Go.Proofs.YtmfphenhpkgidaaGreatDoor
namespace Go.Proofs.YtmfphenhpkgidaaGreatDoor
open Go.Cm Go
set_option maxRecDepth 100000
variable{S:St}
def kb(l:List UInt8):Value:= .string ⟨l.toArray⟩
theorem zY:∀(l r:List UInt8),GQ l r=decide (l=r)
 | [],[]=>rfl
 | [],b::r=>rfl
 |a::l,[]=>rfl
 |a::l,b::r=>by
  show(bif Nat.beq a.toNat b.toNat then GQ l r else false)=_
  rw[zY l r]
  by_cases h:a=b
  ·subst h
   rw[IN,cond_true]
   by_cases h2:l=r
   ·rw[decide_eq_true h2,decide_eq_true (by rw[h2])]
   rw[decide_eq_false h2,decide_eq_false (fun e=>h2 (List.cons.inj e).2)]
  have:Nat.beq a.toNat b.toNat=false:=by
   cases hb:Nat.beq a.toNat b.toNat with
   |false=>rfl
   |true=>exact absurd (UInt8.toNat_inj.1 (Bc hb)) h
  rw[this,cond_false,decide_eq_false (fun e=>h (List.cons.inj e).1)]
theorem XU(a b:List UInt8):Cl Tryz.prog E' 9 (kb a) (kb b)=some (decide (a=b)):=by
 show Cl Tryz.prog 40 9 (.string ⟨a.toArray⟩) (.string ⟨b.toArray⟩)=_
 unfold Cl
 simp only[Tryz.underlying9]
 rw[←zY]
theorem XV(a:List UInt8):F4 Tryz.prog 20 9 (kb a)=true:=by
 show F4 Tryz.prog (19+1) 9 (.string ⟨a.toArray⟩)=true
 kernel_rfl
theorem wq(a:List UInt8):CP 1000 (kb a) (kb a)=true:=by
 show CP (999+1) (.string _) (.string _)=true
 unfold CP
 exact VI _
theorem nx(s:Sg):F4 Tryz.prog 20 55 s.v=true:=by
 show F4 Tryz.prog (19+1) 55 (AX s.cells)=true
 kernel_rfl
theorem ANL(s:Sg):CP 1000 s.v s.v=true:=by
 show CP (999+1) (.agg _) (.agg _)=true
 unfold CP
 exact VJ _ 999 (by decide:17<999) (by unfold Sg.cells;repeat (first|exact GG|refine BS (BK _ _) ?_|refine BS (GF _) ?_))
def p8{κ:Type}[DecidableEq κ](D:List (κ×Value))(m:Int):Prop:= ∀k,GZ D k=none∨∃n:Int,1≤n∧n≤m∧GZ D k=some (.int .i64 n)
theorem AOO(S0:St)(Ts:List St)(l:List (Nat×AF))(gs:List Gr)(B:Nat)(D:List (List UInt8×Value))(k:List UInt8)(m:Int)(hm:m≤100000)(hD:p8 D m)(hl:AE S0 Ts S ([(B,Bu kb D)]++l) gs):CC Tryz.prog KK 45 [.map (some B),kb k] S (fun v S'=>∃c:Int,v= .bool (GZ D k).isNone∧1≤c∧c≤max m 0+1∧AE S0 Ts S' ([(B,Bu kb (EZ D k (.int .i64 c)))]++l) gs):=by
 refine ce 13 Tryz.func45 fun _=>?_
 have hl:AE S0 Ts S ((B,Bu kb D)::l) gs:=hl
 refine zg ?_;refine rr rfl (OD rfl rfl rfl (N4 Tryz.underlying75 (hl.get 0 rfl) XU (XV k) rfl)) ?_
 rcases hD k with h|⟨n,US,LC,h⟩
 ·
  rw[h]
  refine zg ?_;refine YB hl 0 (k:=k) (v:= .int .i64 1) rfl rfl rfl rfl rfl rfl rfl rfl Tryz.underlying75 XU (XV k) rfl (wq k) ?_;intro S1 hl
  have hl:AE S0 Ts S1 ((B,Bu kb (EZ D k (.int .i64 1)))::l) gs:=hl
  refine zg ?_;refine rr rfl (OD rfl rfl rfl (N4 Tryz.underlying75 (hl.get 0 rfl) XU (XV k) rfl)) ?_
  rw[Tw,if_pos rfl]
  refine zg ?_
  exact y1 rfl ⟨1,rfl,AA,AA,hl⟩
 rw[h]
 have hw:(some (Value.int .i64 n)).getD (.int .i64 0)= .int .i64 n:=rfl
 rw[hw]
 refine zg ?_;refine YB hl 0 (k:=k) (v:= .int .i64 (n+1)) rfl rfl rfl rfl rfl rfl rfl rfl Tryz.underlying75 XU (XV k) rfl (wq k) ?_;intro S1 hl
 have hl:AE S0 Ts S1 ((B,Bu kb (EZ D k (.int .i64 (n+1))))::l) gs:=hl
 refine zg ?_;refine rr rfl (OD rfl rfl rfl (N4 Tryz.underlying75 (hl.get 0 rfl) XU (XV k) rfl)) ?_
 rw[Tw,if_pos rfl]
 have PG:(some (Value.int .i64 (n+1))).getD (.int .i64 0)= .int .i64 (n+1):=rfl
 rw[PG]
 refine zg ?_
 have h1:((n+1)==(1:Int))=false:=by simp;omega
 exact y1 rfl ⟨n+1,by rw[h1];rfl,AA,AA,hl⟩
end Go.Proofs.YtmfphenhpkgidaaGreatDoor
namespace Go.Proofs.YtmfphenhpkgidaaGreatDoor
open Go.Cm Go
set_option maxRecDepth 100000
variable{S:St}
def ix(s:Sg):List Sg→Option Nat
 | []=>none
 |y::U=>if y=s then some 0 else(ix s U).map (· +1)
theorem jo{s:Sg}:∀{U:List Sg},s∉U→ix s U=none
 | [],_=>rfl
 |y::U,h=>by
  rw[ix,if_neg (fun e=>h (by rw[e];exact Al)),jo (fun e=>h (BQ e))]
  rfl
theorem Uj{s:Sg}:∀{U:List Sg},s∈U→∃i,ix s U=some i∧i<U.length
 | [],h=>(List.not_mem_nil h).elim
 |y::U,h=>by
  rw[ix]
  by_cases e:y=s
  ·exact⟨0,if_pos e,by simp⟩
  rw[if_neg e]
  obtain⟨i,h1,h2⟩:=Uj (U:=U) (by
   rcases List.mem_cons.1 h with h|h
   ·exact absurd h.symm e
   exact h)
  exact⟨i+1,by rw[h1];rfl,by simp;omega⟩
theorem jq{s:Sg}:∀{U:List Sg} {i:Nat},ix s U=some i→nth U i=some s
 | [],_,h=>by cases h
 |y::U,i,h=>by
  rw[ix]at h
  by_cases e:y=s
  ·rw[if_pos e]at h
   cases h
   rw[e]
   rfl
  rw[if_neg e]at h
  cases hk:ix s U with
  |none=>rw[hk]at h;cases h
  |some k =>
   rw[hk]at h
   cases h
   exact jq (U:=U) (i:=k) hk
theorem vu{s t:Sg}:∀{U:List Sg},s∉U→ix t (U++[s])=if t=s then some U.length else ix t U
 | [],_=>by
  show(if s=t then some 0 else none)=if t=s then some 0 else none
  by_cases e:s=t
  ·rw[if_pos e,if_pos e.symm]
  rw[if_neg e,if_neg (fun h=>e h.symm)]
 |y::U,h=>by
  have h1:=vu (t:=t) (U:=U) (fun e=>h (BQ e))
  rw[List.cons_append,ix,h1,ix]
  by_cases e:y=t
  ·subst e
   rw[if_pos rfl,if_neg (fun e2=>h (by rw[←e2];exact Al)),if_pos rfl]
  rw[if_neg e,if_neg e]
  by_cases e2:t=s
  ·rw[if_pos e2,if_pos e2]
   rfl
  rw[if_neg e2,if_neg e2]
def QW(D:List (Sg×Value))(U:List Sg):Prop:=D.length=U.length∧∀s,GZ D s=(ix s U).map fun i=>Value.int .i64 ((i:Int)+1)
theorem AI3:QW [] []:=⟨rfl,fun _=>rfl⟩
theorem AI4{D:List (Sg×Value)}{U:List Sg}{s:Sg}(h:QW D U)(hs:s∉U):QW (EZ D s (.int .i64 ((D.length:Int)+1))) (U++[s]):=by
 have ha:GZ D s=none:=by rw[h.2,jo hs];rfl
 have hp:En D s=none:=by
  unfold GZ at ha
  cases hx:En D s with
  |none=>rfl
  |some x=>rw[hx]at ha;cases ha
 refine⟨by rw[mj hp,h.1,DS];rfl,fun t=>?_⟩
 rw[Tw,vu hs]
 by_cases e:t=s
 ·rw[if_pos e,if_pos e,h.1]
  rfl
 rw[if_neg e,if_neg e]
 exact h.2 t
theorem AI2{D:List (Sg×Value)}{U:List Sg}(h:QW D U)(s:Sg):∃n:Int,(GZ D s).getD (.int .i64 0)= .int .i64 n∧0≤n∧n≤U.length∧(n=0↔s∉U):=by
 rw[h.2]
 by_cases hs:s∈U
 ·obtain⟨i,h1,h2⟩:=Uj hs
  rw[h1]
  exact⟨(i:Int)+1,rfl,AA,AA,fun e=>by omega,fun e=>absurd hs e⟩
 rw[jo hs]
 exact⟨0,rfl,AA,AA,fun _=>hs,fun _=>rfl⟩
def F5(U:List Sg)(s:Sg):Int:=((ix s U).getD 0:Nat)+1
theorem AHz{D:List (Sg×Value)}{U:List Sg}(h:QW D U){s:Sg}(hs:s∈U):(GZ D s).getD (.int .i64 0)= .int .i64 (F5 U s):=by
 obtain⟨i,h1,_⟩:=Uj hs
 rw[h.2,F5,h1]
 rfl
theorem AHy{U:List Sg}{s:Sg}(hs:s∈U):1≤F5 U s∧F5 U s≤U.length:=by
 obtain⟨i,h1,h2⟩:=Uj hs
 rw[F5,h1]
 show 1≤(i:Int)+1∧(i:Int)+1≤U.length
 omega
theorem AH0{U:List Sg}{s t:Sg}(hU:U.length≤127)(hs:s∈U)(ht:t∈U)(h:UInt8.ofNat (F5 U s).toNat=UInt8.ofNat (F5 U t).toNat):s=t:=by
 obtain⟨i,h1,h2⟩:=Uj hs
 obtain⟨j,k1,k2⟩:=Uj ht
 have e1:(F5 U s).toNat=i+1:=by rw[F5,h1];show((i:Int)+1).toNat=_;omega
 have e2:(F5 U t).toNat=j+1:=by rw[F5,k1];show((j:Int)+1).toNat=_;omega
 rw[e1,e2]at h
 have h3:=congrArg UInt8.toNat h
 rw[UInt8.toNat_ofNat',UInt8.toNat_ofNat']at h3
 have MJ:i=j:=by omega
 subst MJ
 have a1:=jq h1
 have a2:=jq k1
 rw[a1]at a2
 exact Option.some.inj a2
def MM(U:List Sg)(p:List Sg):List UInt8:=Og (p.map (F5 U))
theorem wx{U:List Sg}(hU:U.length≤127):∀{p q:List Sg},(∀s,s∈p→s∈U)→(∀s,s∈q→s∈U)→MM U p=MM U q→p=q
 | [],[],_,_,_=>rfl
 | [],t::q,_,_,h=>by cases h
 |s::p,[],_,_,h=>by cases h
 |s::p,t::q,hp,hq,h=>by
  have h1:UInt8.ofNat (F5 U s).toNat::MM U p=UInt8.ofNat (F5 U t).toNat::MM U q:=h
  obtain⟨h2,h3⟩:=List.cons.inj h1
  rw[AH0 hU (hp s Al) (hq t Al) h2,wx hU (fun x hx=>hp x (BQ hx)) (fun x hx=>hq x (BQ hx)) h3]
def OY(U:List Sg)(D:List (List UInt8×Value))(O:List (List Sg))(m:Int):Prop:=p8 D m∧(∀p,p∈O→∀s,s∈p→s∈U)∧∀p,(∀s,s∈p→s∈U)→(GZ D (MM U p)).isNone=!decide (p∈O)
theorem ANU(U:List Sg):OY U [] [] 0:=⟨fun _=> .inl rfl,fun _ hp=>(List.not_mem_nil hp).elim,fun _ _=>rfl⟩
theorem ANV{U:List Sg}(hU:U.length≤127){D:List (List UInt8×Value)}{O:List (List Sg)}{m c:Int}{p:List Sg}(h:OY U D O m)(hp:∀s,s∈p→s∈U)(hm:0≤m)(Q6:1≤c)(MG:c≤max m 0+1):OY U (EZ D (MM U p) (.int .i64 c)) (bif !decide (p∈O)then O++[p]else O) (m+1):=by
 have KL:∀q,q∈(bif !decide (p∈O)then O++[p]else O)↔q=p∨q∈O:=fun q=>by
  by_cases e:p∈O
  ·rw[decide_eq_true e]
   show q∈O↔_
   constructor
   ·exact .inr
   rintro(rfl|h)
   ·exact e
   exact h
  rw[decide_eq_false e]
  show q∈O++[p]↔_
  rw[List.mem_append,List.mem_singleton]
  exact or_comm
 refine⟨fun k=>?_,fun q hq=>?_,fun q hq=>?_⟩
 ·rw[Tw]
  by_cases e:k=MM U p
  ·rw[if_pos e]
   exact .inr ⟨c,Q6,AA,rfl⟩
  rw[if_neg e]
  rcases h.1 k with h1|⟨n,h1,h2,h3⟩
  ·exact .inl h1
  exact .inr ⟨n,h1,AA,h3⟩
 ·rcases(KL q).1 hq with rfl|h1
  ·exact hp
  exact h.2.1 q h1
 rw[Tw]
 by_cases e:MM U q=MM U p
 ·have:=wx hU hq hp e
  subst this
  rw[if_pos e,decide_eq_true ((KL q).2 (.inl rfl))]
  rfl
 rw[if_neg e,h.2.2 q hq]
 have Ac:q≠p:=fun e2=>e (by rw[e2])
 congr 1
 rw[decide_eq_decide,KL]
 constructor
 ·exact .inr
 rintro(rfl|h1)
 ·exact absurd rfl Ac
 exact h1
theorem vm:∀(j:Nat) (L:List AP) (cs:List Nat),cs.length=L.length→(D0 (L.drop j) (cs.drop j)).2=false→D0 L cs=(cs.take j++(D0 (L.drop j) (cs.drop j)).1,false)
 |0,L,cs,_,h=>by
  rw[List.drop_zero,List.drop_zero]at h ⊢
  rw[List.take_zero,List.nil_append]
  exact Prod.ext rfl h
 |j+1,[],cs,hl,h=>by
  cases cs with
  |nil=>rw[List.drop_nil,List.drop_nil]at h;cases h
  |cons c cs=>simp at hl
 |j+1,x::L,[],hl,h=>by simp at hl
 |j+1,x::L,c::cs,hl,h=>by
  rw[List.drop_succ_cons,List.drop_succ_cons]at h ⊢
  have h1:=vm j L cs (by simpa using hl) h
  rw[D0,h1]
  rfl
theorem vk:∀(L:List AP) (cs:List Nat),cs.length=L.length→(D0 L cs).1.length=L.length
 | [],[],_=>rfl
 | [],c::cs,h=>by simp at h
 |x::L,[],h=>by simp at h
 |x::L,c::cs,h=>by
  have h1:=vk L cs (by simpa using h)
  rw[D0]
  cases (D0 L cs).2 with
  |false =>
   show((c::(D0 L cs).1).length)=_
   rw[List.length_cons,h1,List.length_cons]
  |true =>
   cases decide (c+1<A6 x)with
   |true =>
    show(((c+1)::(D0 L cs).1).length)=_
    rw[List.length_cons,h1,List.length_cons]
   |false =>
    show((0::(D0 L cs).1).length)=_
    rw[List.length_cons,h1,List.length_cons]
theorem AHW{L:List AP}{cs:List Nat}{j:Nat}{x:AP}{c:Nat}(hx:nth L j=some x)(hc:nth cs j=some c)(UL:(D0 (L.drop (j+1)) (cs.drop (j+1))).2=true):D0 (L.drop j) (cs.drop j)=(bif decide (c+1<A6 x)then((c+1)::(D0 (L.drop (j+1)) (cs.drop (j+1))).1,false)else(0::(D0 (L.drop (j+1)) (cs.drop (j+1))).1,true)):=by
 have e1:L.drop j=x::L.drop (j+1):=C9 hx
 have e2:cs.drop j=c::cs.drop (j+1):=by
  rw[CE]at hc
  obtain⟨h1,h2⟩:=List.getElem?_eq_some_iff.1 hc
  rw[List.drop_eq_getElem_cons h1,h2]
 rw[e1,e2,D0,UL]
 rfl
theorem u6{S0 S:St}{l:List (Nat×AF)}{gs:List Gr}(h:AE S0 [S0] S l gs){k b:Nat}{c:List Value}{e:TypeId}(hk:nth l k=some (b,.cells c e true true []))(hge:∀g,g∈gs→g.e≠e)(y:AF):AE S0 [S0] (S.set b y) (Js k y l) gs:=by
 have h0:=jB h
 have h2:=h0.yz hk (h0.old hk) y
 have hb:=h.at_ b _ (BV hk)
 refine⟨h2.AD,h2.nd,h2.at_,h2.rk,fun g hg=>?_⟩
 rcases h.gr g hg with h1|⟨b2,kin,h1,h3,h4,h5,h6⟩
 ·exact .inl h1
 refine .inr ⟨b2,kin,h1,h3,h4,?_,h6⟩
 rw[Ee,if_neg]
 ·exact h5
 rintro rfl
 rw[hb.1]at h5
 cases h5
 exact hge g hg rfl
theorem xN{α:Type}{e e2:TypeId}{z:Nat}{f:α→List Value}{S:St}{v:Value}{C:List α}{b:Nat}{c:List Value}{o1 o2:Bool}{ks:List Nat}{y:AF}(h:A0 e z f S v C)(hb:S.get b=some (.cells c e2 o1 o2 ks))(Ac:e≠e2):A0 e z f (S.set b y) v C:=by
 rcases h with h|⟨b2,o,cap,cs,h1,h2,⟨h3,own,kin,h4⟩,h5⟩
 ·exact .inl h
 refine .inr ⟨b2,o,cap,cs,h1,h2,⟨h3,own,kin,?_⟩,h5⟩
 rw[Ee,if_neg]
 ·exact h4
 rintro rfl
 rw[hb]at h4
 cases h4
 exact Ac rfl
end Go.Proofs.YtmfphenhpkgidaaGreatDoor
namespace Go.Proofs.YtmfphenhpkgidaaGreatDoor
open Go.Cm Go
set_option maxRecDepth 100000
variable{S:St}
theorem sV:∀(L:List AP),dg L 0=(List.replicate L.length 0,0)
 | []=>rfl
 |x::L=>by
  show(((dg L 0).2%A6 x)::(dg L 0).1,(dg L 0).2/A6 x)=_
  rw[sV L]
  show((0%A6 x)::List.replicate L.length 0,0/A6 x)=_
  rw[Nat.zero_mod,Nat.zero_div]
  rfl
theorem yl:∀{L:List AP},(∀x,x∈L→1≤A6 x∧A6 x≤4)→0<BR L
 | [],_=>Nat.one_pos
 |x::_,h=>Nat.mul_pos (yl fun y hy=>h y (BQ hy)) (h x Al).1
theorem zy{α:Type}:∀(A:List α) (c v:α) (Q:List α),(A++c::Q).set A.length v=A++v::Q
 | [],_,_,_=>rfl
 |a::A,c,v,Q=>congrArg (a:: ·) (zy A c v Q)
theorem ANT{U:List Sg}{D:List (List UInt8×Value)}{O:List (List Sg)}{m:Int}(h:OY U D O m):OY U D O (m+1):=by
 refine⟨fun k=>?_,h.2⟩
 rcases h.1 k with h1|⟨n,h1,h2,h3⟩
 ·exact .inl h1
 exact .inr ⟨n,h1,AA,h3⟩
theorem sj{κ:Type}(kc:κ→Value):∀(D:List (κ×Value)) (c:Nat),(JO kc c D).length=D.length
 | [],_=>rfl
 |(_,_)::D,c=>congrArg (· +1) (sj kc D (c+1))
theorem AIA{S:St}{κ:Type}{kc:κ→Value}{D:List (κ×Value)}{r:Nat}(hg:S.get r=some (Bu kc D)):Fo Tryz.prog 74 (.map (some r)) S=some (.int .i64 (D.length:Int)):=by
 unfold Fo
 simp only[Tryz.underlying74,hg,Bu]
 rw[sj]
abbrev eP(nm:ByteArray)(v:Value)(P:List Pr)(fr:List (Nat×AF)):Prop:=OW v 44 2 ((P.map (Pr.cells nm)).flatten) P.length fr
theorem AJX{nm:ByteArray}{a:Option Addr}{C:List Pr}{x:Pr}{fr:List (Nat×AF)}(h:OW (.slice a (C.length+1) (C.length+1)) 44 2 ((C.map (Pr.cells nm)).flatten++x.cells nm) (C.length+1) fr):eP nm (.slice a (C++[x]).length (C++[x]).length) (C++[x]) fr:=OW.push h
def cR(W:List Nat):List Value:=((W.map nc).map ic).flatten
theorem rV{id j:Nat}{Q:CV}{L:Env}{S:St}(h:Nat.beq j id=false)(q:Q (.exit j) L S):QU id Q (.exit j) L S:=by
 show(bif Nat.beq j id then Q .normal L S else Q (.exit j) L S)
 rw[h]
 exact q
theorem rU{id j:Nat}{Q:CV}{L:Env}{S:St}(h:Nat.beq j id=true)(q:Q .normal L S):QU id Q (.exit j) L S:=by
 show(bif Nat.beq j id then Q .normal L S else Q (.exit j) L S)
 rw[h]
 exact q
theorem dn{P:Program}{K:BX}{n j:Nat}{ro:Option Nat}{y:Code}{L:Env}{S:St}{Q:CV}(h:Q (.exit j) L S):Lq P K n ro y Q (.exit j) L S:=h
theorem zQ{I:Nat→Env→St→Prop}{m j:Nat}{L:Env}{S:St}{Q:CV}(h:Q (.exit j) L S):Round I m Q (.exit j) L S:=h
theorem zT{W:List Nat}{j v:Nat}{W2:List Nat}(h:j<W.length)(e:W.set j v=W2):Bq (0+j) (BG (Value.int .i64 (nc v))) (cR W)=some (cR W2):=by
 have h1:=VK (g:=fun x=>Value.int .i64 x) (C:=W.map nc) (k:=j) (nc v) (by rw[D1];exact h)
 rw[←List.map_set,e]at h1
 rw[Nat.zero_add]
 exact h1
theorem sP:∀{L:List AP} {n:Nat},(∀x,x∈L→1≤A6 x∧A6 x≤4)→∀k,k∈(dg L n).1→k≤4
 | [],_,_,k,hk=>(List.not_mem_nil hk).elim
 |x::L,n,h,k,hk=>by
  have hx:=h x Al
  rcases List.mem_cons.1 hk with e|hk
  ·rw[e]
   have:=Nat.mod_lt (dg L n).2 (show 0<A6 x by omega)
   omega
  exact sP (L:=L) (n:=n) (fun y hy=>h y (BQ hy)) k hk
theorem AHX{L:List AP}{i:Nat}(hi:i<BR L)(hp:∀x,x∈L→0<A6 x):((D0 L (dg L i).1).2=true→i+1=BR L)∧((D0 L (dg L i).1).2=false→i+1<BR L)∧(D0 L (dg L i).1).1=(dg L (i+1)).1:=by
 obtain⟨h1,h2⟩:=sR L i hp
 have h3:(dg L i).2=0:=by rw[Zh];exact Nat.div_eq_of_lt hi
 rw[h3]at h1 h2
 rw[h1]
 refine⟨fun h=>?_,fun h=>?_,rfl⟩
 ·have h4:=I6 h
  rw[Zh]at h4
  rcases Nat.lt_or_ge (i+1) (BR L)with h5|h5
  ·exact absurd (Nat.div_eq_of_lt h5) h4
  omega
 have h4:(dg L (i+1)).2=0:=by
  have:=Jk h
  exact Classical.not_not.1 this
 rw[Zh]at h4
 rcases Nat.lt_or_ge (i+1) (BR L)with h5|h5
 ·exact h5
 have:=Nat.div_pos h5 AA
 omega
set_option maxHeartbeats 4000000 in
theorem ANe(nm:ByteArray)(a:Option Addr)(cap:Nat)(L:List AP)(_:nm.data.toList.length≤1000)(hn:L.length≤1000)(IB:(Dw nm.data.toList L).2=0→L.length≤24)(hs:∀x,x∈L→x.AT.length≤1000)(hF:BW S)(hG:Gl S)(hv:EG S (.slice a L.length cap) L):CC Tryz.prog KK 13 [AX [.string nm,.slice a L.length cap]] S (fun v S'=>AL S S'∧(eT S' nm L v)):=by
 refine ce 120 Tryz.func13 fun hl=>?_;refine zg ?_;refine bL hl fun B1 S1 hl=>?_;refine zg ?_;refine ABS rfl ?_;refine zg ?_
 refine zc hl rfl (ANb nm a cap L hn hs (hG.AD hl.AD) (hv.move (hl.since 0 rfl))) ?_;rintro v S2 AM rfl hl
 refine zg ?_
 constructor<;>intro CX
 ·
  refine zg ?_
  exact Ai (Pk (y2 rfl rfl ⟨hl.AD,.inl ⟨by simpa using CX,rfl⟩⟩))
 have h0:(Dw nm.data.toList L).2=0:=by simpa using CX
 obtain⟨hc,G1⟩:=sF h0
 have A4:=sA (fQ h0)
 have hL:=IB h0
 have Np:=yl A4
 refine zg ?_;refine mq hl Sg.v rfl rfl rfl rfl rfl ?_;intro Dv S29 hl;refine zA ?_;refine AG rfl ?_;refine zS ?_;refine Az rfl ?_;refine AK (L':=[(33,.int .i64 0),(32,.int .i64 L.length),(31,.slice a L.length cap),(6,.map (some Dv)),(3,.int .i64 0),(2,.slice none 0 0),(1,ptrTo B1 0)]) sE ?_
 refine A2 rfl (fun m Le S'=>∃(i:Nat) (Dn:List (Sg×Value)) (U:List Sg),i≤L.length∧m=L.length-i∧QW Dn U∧U.length≤4*i∧(∀y,y∈L.take i→∀s,s∈y.AT→s∈U)∧Af [(33,.int .i64 (i:Int)),(32,.int .i64 L.length),(31,.slice a L.length cap),(6,.map (some Dv)),(3,.int .i64 0),(2,.slice none 0 0),(1,ptrTo B1 0)] Le∧AE S [S] S' [(Dv,Bu Sg.v Dn),(B1,.cells [.string nm,.slice a L.length cap] 24 false true [])] []) ?_ (m:=L.length) ⟨0,[],[],AA,AA,AI3,by simp,fun y hy=>(List.not_mem_nil hy).elim,sE,hl⟩
 clear hl;rintro m Le S' ⟨i,Dn,U,hi,rfl,hD,iH,hU,AH,hl⟩;refine AK AH ?_
 refine zg ?_
 constructor<;>intro E2
 ·
  have AN:i<L.length:=dT E2
  obtain⟨x,hx⟩:=Ad AN
  have FH:=hs x (BV hx)
  have vW:=A4 x (BV hx)
  have hx4:x.AT.length≤4:=by unfold A6 at vW;omega
  obtain⟨b1,o1,BF,a1,c1,ha,AQ,Aa,Fm⟩:=hv.elem hx
  refine zg ?_;refine aL hl [.slice none 0 0,.bool false] fun B8 S8 hl=>?_;refine sL hl 0 [.slice a1 x.AT.length c1,.bool x.blank] fun S9 hl=>?_;refine zA ?_;refine zS ?_;refine Az rfl ?_;refine AK (L':=[(40,.int .i64 0),(39,.int .i64 x.AT.length),(38,.slice a1 x.AT.length c1),(33,.int .i64 (i:Int)),(32,.int .i64 L.length),(31,.slice a L.length cap),(6,.map (some Dv)),(3,.int .i64 0),(2,.slice none 0 0),(1,ptrTo B1 0)]) sE ?_
  refine A2 rfl (fun m Le S'=>∃(k:Nat) (Dn:List (Sg×Value)) (U:List Sg),k≤x.AT.length∧m=x.AT.length-k∧QW Dn U∧U.length≤4*i+k∧(∀y,y∈L.take i→∀s,s∈y.AT→s∈U)∧(∀s,s∈x.AT.take k→s∈U)∧Af [(40,.int .i64 (k:Int)),(39,.int .i64 x.AT.length),(38,.slice a1 x.AT.length c1),(33,.int .i64 (i:Int)),(32,.int .i64 L.length),(31,.slice a L.length cap),(6,.map (some Dv)),(3,.int .i64 0),(2,.slice none 0 0),(1,ptrTo B1 0)] Le∧AE S [S] S' [(B8,.cells [.slice a1 x.AT.length c1,.bool x.blank] 49 false true []),(Dv,Bu Sg.v Dn),(B1,.cells [.string nm,.slice a L.length cap] 24 false true [])] []) ?_ (m:=x.AT.length) ⟨0,Dn,U,AA,AA,hD,AA,hU,fun s h=>(List.not_mem_nil h).elim,sE,hl⟩
  clear hl hD hU iH AH ha AQ Aa;rintro m Le S' ⟨k,Dn,U,hk,rfl,hD,iH,hU,iI,AH,hl⟩;refine AK AH ?_
  refine zg ?_
  constructor<;>intro FT
  ·
   have G3:k<x.AT.length:=dT FT
   obtain⟨s,Jd⟩:=Ad G3
   have Fm:CW S (.slice a1 x.AT.length c1) x.AT:=Fm
   obtain⟨b1,o1,BF,ha,_,AQ,Aa⟩:=Fm.elem Jd
   obtain⟨n,US,LC,aQ,Nl⟩:=AI2 hD s
   refine zg ?_;refine aL hl [.int .i64 0,.int .i64 0,.int .i64 0,.int .i64 0,.bool false,.int .i64 0,.bool false,.bool false,.int .i64 0,.int .i64 0,.int .i64 0,.int .i64 0,.bool false,.int .i64 0,.int .i64 0,.int .i64 0,.int .i64 0] fun Hv GB hl=>?_;refine sL hl 0 s.cells fun Km hl=>?_;refine zg ?_;refine rr rfl (OD rfl rfl rfl (N4 (kc:=Sg.v) (k:=s) (D:=Dn) Tryz.underlying74 (hl.get 2 rfl) WT (nx s) rfl)) ?_
   rw[US]
   refine zg ?_
   constructor<;>intro K3
   ·
    have UX:s∉U:=Nl.1 (by simpa using K3)
    refine zg ?_;refine rr rfl (F8 rfl rfl (AIA (hl.get 2 rfl))) ?_
    have MC:=hD.1
    refine zg ?_;refine YB (kc:=Sg.v) hl 2 (k:=s) (D:=Dn) (v:= .int .i64 ((Dn.length:Int)+1)) rfl rfl rfl rfl rfl rfl rfl rfl Tryz.underlying74 WT (nx s) rfl (ANL s) ?_;intro Ko hl
    have hl:AE S [S] Ko [(Hv,.cells s.cells 55 false true []),(B8,.cells [.slice a1 x.AT.length c1,.bool x.blank] 49 false true []),(Dv,Bu Sg.v (EZ Dn s (.int .i64 ((Dn.length:Int)+1)))),(B1,.cells [.string nm,.slice a L.length cap] 24 false true [])] []:=hl
    refine zg ?_
    refine⟨x.AT.length-(k+1),AA,k+1,_,U++[s],AA,rfl,AI4 hD UX,by rw[A8];omega,fun y hy t ht=>List.mem_append.2 (.inl (hU y hy t ht)),fun t ht=>?_,sE,hl.tail⟩
    rw[QO Jd]at ht
    rcases List.mem_append.1 ht with h|h
    ·exact List.mem_append.2 (.inl (iI t h))
    exact List.mem_append.2 (.inr h)
   have UX:s∈U:=by
    have:n≠0:=by simpa using K3
    exact Classical.not_not.1 fun h=>this (Nl.2 h)
   refine zg ?_
   refine⟨x.AT.length-(k+1),AA,k+1,Dn,U,AA,rfl,hD,AA,hU,fun t ht=>?_,sE,hl.tail⟩
   rw[QO Jd]at ht
   rcases List.mem_append.1 ht with h|h
   ·exact iI t h
   rw[List.mem_singleton.1 h]
   exact UX
  refine zg ?_
  refine⟨L.length-(i+1),AA,i+1,Dn,U,AA,rfl,hD,AA,fun y hy t ht=>?_,sE,hl.tail⟩
  rw[QO hx]at hy
  rcases List.mem_append.1 hy with h|h
  ·exact hU y h t ht
  rw[List.mem_singleton.1 h]at ht
  exact iI t (by rw[List.take_of_length_le (dF FT)];exact ht)
 have hUa:∀y,y∈L→∀s,s∈y.AT→s∈U:=by
  rw[List.take_of_length_le (dF E2)]at hU
  exact hU
 have hU7:U.length≤127:=by omega
 clear hU iH hi AH
 refine zg ?_;refine mq hl kb rfl rfl rfl rfl rfl ?_;intro Ff S55 hl;refine zg ?_;refine mr hl rfl rfl rfl rfl rfl rfl rfl rfl rfl Tryz.underlying38 (z:= .int .i64 0) AB AB (by unfold Ae;omega) ?_;intro Dg S59 hl
 have AHN:EE L.length (BG (Value.int .i64 0))=cR (dg L 0).1:=by
  show EE L.length [Value.int .i64 0]=_
  rw[cU,cR,sV]
  simp only[List.map_replicate]
  rfl
 rw[AHN]at hl
 refine zg ?_;refine ABR rfl ?_;refine AG rfl ?_;refine Az rfl ?_;refine AK (L':=[(13,.slice (some ⟨Dg,0,none⟩) L.length L.length),(12,.slice none 0 0),(11,.map (some Ff)),(6,.map (some Dv)),(3,.int .i64 0),(2,.slice none 0 0),(1,ptrTo B1 0)]) sE ?_
 refine A2 rfl (fun m Le S'=>∃(i:Nat) (av:Option Addr) (P:List Pr) (Dk:List (List UInt8×Value)) (fO:List (Nat×AF)),i<BR L∧m=BR L-i∧P.length≤i∧eP nm (.slice av P.length P.length) P fO∧P.map Pr.C=Eo nm.data.toList L i∧OY U Dk (P.map Pr.C) i∧(∀x,x∈P→x.Ok S')∧(∀x,x∈P→x.C.length≤1000)∧Af [(13,.slice (some ⟨Dg,0,none⟩) L.length L.length),(12,.slice av P.length P.length),(11,.map (some Ff)),(6,.map (some Dv)),(3,.int .i64 0),(2,.slice none 0 0),(1,ptrTo B1 0)] Le∧AE S [S] S' ((Dg,.cells (cR (dg L i).1) 3 true true [])::(Ff,Bu kb Dk)::(Dv,Bu Sg.v Dn)::(B1,.cells [.string nm,.slice a L.length cap] 24 false true [])::(fO++[])) []) ?_ (m:=BR L) ⟨0,none,[],[],[],Np,AA,by simp,.inl ⟨rfl,rfl,rfl,rfl⟩,rfl,ANU U,fun x hx=>(List.not_mem_nil hx).elim,fun x hx=>(List.not_mem_nil hx).elim,sE,hl⟩
 clear hl;rintro m Le Sx ⟨i,av,P,Dk,fO,hi,rfl,UJ,UI,KG,Qz,DC,H8,AH,hl⟩;refine AK AH ?_
 have Nh:=fY L i
 have AQ:=hl.at_ Dg _ Al
 have hw:CZ Sx (.slice (some ⟨Dg,0,none⟩) ((dg L i).1.map nc).length ((dg L i).1.map nc).length) ((dg L i).1.map nc):=MR ⟨AQ.2.2,true,[],AQ.1⟩ rfl
 have iy:=AOM (S:=Sx) nm a cap L (some ⟨Dg,0,none⟩) ((dg L i).1.map nc).length (dg L i).1 hn Nh hs (hl.AD.3 hF) (hv.move (hl.since 0 rfl)) hw
 rw[D1,Nh]at iy
 refine zg ?_
 refine zc hl rfl iy ?_;rintro v S3 Cn ⟨ap,cp,rfl,hR⟩ hl
 have DC:=fun x hx=>(DC x hx).move (AL.rk Cn)
 have Dp:=xb L (dg L i).1
 have aS:∀s,s∈mk L (dg L i).1→s∈U:=fun s h=>by
  obtain⟨y,h1,h2⟩:=AIl h
  exact hUa y h1 s h2
 have BL:Eo nm.data.toList L (i+1)=Gq nm.data.toList (P.map Pr.C) (mk L (dg L i).1):=by rw[KG];rfl
 generalize mk L (dg L i).1=p at hR Dp aS BL ⊢
 clear AQ hw iy
 have hl:=hl.mark
 refine aL hl ([.string ⟨#[]⟩,.slice none 0 0]) fun Hw Vz hl=>?_;refine sL hl 0 [.string nm,.slice ap p.length cp] fun Sm hl=>?_
 have DC:=fun x hx=>(DC x hx).move (hl.since 0 rfl)
 have hR:=A0.move (hl.since 0 rfl) hR
 have hl:AE S [S] Sm ((Hw,.cells [.string nm,.slice ap p.length cp] 44 false true [])::(Dg,.cells (cR (dg L i).1) 3 true true [])::(Ff,Bu kb Dk)::(Dv,Bu Sg.v Dn)::(B1,.cells [.string nm,.slice a L.length cap] 24 false true [])::(fO++[])) []:=hl.marks (fun T hT=>BQ hT)
 have GJ:=hl
 have BZ:=hl.at_ Hw _ Al
 have DA:=hl.at_ Dv (Bu Sg.v Dn) (BQ (BQ (BQ Al)))
 have hd:At Sm Hw (.cells [.string nm,.slice ap p.length cp] 44 false true []):=⟨fun g=>(g.2 Hw BZ.2.2).trans BZ.1⟩
 have uO:At Sm Dv (Bu Sg.v Dn):=⟨fun g=>(g.2 Dv DA.2.2).trans DA.1⟩
 have JU:=hl.AD.3 hF
 clear hl
 have hl:=BE.start Sm
 refine zg ?_;refine aL hl [.pointer none,.slice none 0 0] fun QS qI hl=>?_
 have hl:AE Sm [Sm] qI ([(QS,.cells (Qe (.pointer none) none ([]:List Int).length) 80 false true [])]++([]++[])) []:=hl
 refine zA ?_;refine AG rfl ?_;refine zS ?_;refine Az rfl ?_;refine AK (L':=[(66,.int .i64 0),(65,.int .i64 p.length),(64,.slice ap p.length cp),(15,ptrTo QS 0),(14,ptrTo Hw 0),(13,.slice (some ⟨Dg,0,none⟩) L.length L.length),(12,.slice av P.length P.length),(11,.map (some Ff)),(6,.map (some Dv)),(3,.int .i64 0),(2,.slice none 0 0),(1,ptrTo B1 0)]) sE ?_
 refine A2 rfl (fun m Le S'=>∃(k:Nat) (pa:Value) (a2:Option Addr) (E:List Int) (fb:List (Nat×AF)),k≤p.length∧m=p.length-k∧E=(p.take k).map (F5 U)∧E.length=k∧(pa= .pointer none∨pa=ptrTo QS 0)∧(E.length=0→a2=none)∧QY (.slice a2 E.length E.length) E fb∧Af [(66,.int .i64 (k:Int)),(65,.int .i64 p.length),(64,.slice ap p.length cp),(15,ptrTo QS 0),(14,ptrTo Hw 0),(13,.slice (some ⟨Dg,0,none⟩) L.length L.length),(12,.slice av P.length P.length),(11,.map (some Ff)),(6,.map (some Dv)),(3,.int .i64 0),(2,.slice none 0 0),(1,ptrTo B1 0)] Le∧AE Sm [Sm] S' ([(QS,.cells (Qe pa a2 E.length) 80 false true [])]++(fb++[])) []) ?_ (m:=p.length) ⟨0,_,_,[],[],AA,AA,rfl,rfl,.inl rfl,fun _=>rfl,.inl ⟨rfl,rfl,rfl,rfl⟩,sE,hl⟩
 clear hl AH;rintro m Le Sk ⟨k,pa,a2,E,fb,hk,rfl,hE,hZ,W9,FD,hO,AH,hl⟩;refine AK AH ?_
 refine zg ?_
 constructor<;>intro K4
 ·
  have AN:k<p.length:=dT K4
  obtain⟨s,Jd⟩:=Ad AN
  have vL:=aS s (BV Jd)
  have ui:=AHy vL
  have hRm:CW Sm (.slice ap p.length cp) p:=hR
  obtain⟨b1,o1,BF,ha,_,AQ,Aa⟩:=hRm.elem Jd
  refine zg ?_;refine aL hl [.int .i64 0,.int .i64 0,.int .i64 0,.int .i64 0,.bool false,.int .i64 0,.bool false,.bool false,.int .i64 0,.int .i64 0,.int .i64 0,.int .i64 0,.bool false,.int .i64 0,.int .i64 0,.int .i64 0,.int .i64 0] fun OS eU hl=>?_;refine sL hl 0 s.cells fun NC hl=>?_;refine zg ?_;refine rr rfl (OD rfl rfl rfl (N4 (kc:=Sg.v) (k:=s) (D:=Dn) Tryz.underlying74 (uO.at_ hl.AD) WT (nx s) rfl)) ?_
  rw[AHz hD vL]
  have AHV:IntKind.i32.wrap (F5 U s)=F5 U s:=by
   unfold IntKind.wrap
   simp[IntKind.bits,IntKind.signed]
   omega
  refine Rz rfl rfl rfl rfl rfl (v:= .int .i32 (IntKind.i32.wrap (F5 U s))) (S':=NC) rfl rfl ?_
  rw[AHV]
  refine D5 rfl rfl rfl rfl rfl rfl rfl (C8 (AON Sm QS pa a2 E fb (F5 U s) W9 AA AA AA hO hl.tail) ?_);rintro v qJ ⟨kk1,a3,K1,rfl,Ei,hl⟩
  refine zg ?_
  exact⟨p.length-(k+1),AA,k+1,_,a3,E++[F5 U s],K1,AA,rfl,by rw[QO Jd,Hm,hE];rfl,by rw[A8];omega,.inr rfl,fun h=>by rw[A8]at h;omega,Ei,sE,hl⟩
 have hE2:E=p.map (F5 U):=by rw[hE,List.take_of_length_le (dF K4)]
 clear hE AH uO DA
 refine HB rfl ?_
 refine AG rfl (Ex (fun Le S'=>∃(av:Option Addr) (P:List Pr) (Dk:List (List UInt8×Value)) (fO:List (Nat×AF)),P.length≤i+1∧eP nm (.slice av P.length P.length) P fO∧P.map Pr.C=Eo nm.data.toList L (i+1)∧OY U Dk (P.map Pr.C) ((i:Int)+1)∧(∀x,x∈P→x.Ok S')∧(∀x,x∈P→x.C.length≤1000)∧Af [(13,.slice (some ⟨Dg,0,none⟩) L.length L.length),(12,.slice av P.length P.length),(11,.map (some Ff)),(6,.map (some Dv)),(3,.int .i64 0),(2,.slice none 0 0),(1,ptrTo B1 0)] Le∧AE S [S] S' ((Hw,.cells [.string nm,.slice ap p.length cp] 44 false true [])::(Dg,.cells (cR (dg L i).1) 3 true true [])::(Ff,Bu kb Dk)::(Dv,Bu Sg.v Dn)::(B1,.cells [.string nm,.slice a L.length cap] 24 false true [])::(fO++[])) []) ?_ ?_)
 ·
  have hGm:Gl Sk:=hG.AD (GJ.AD.trans hl.AD)
  refine zg ?_
  refine zc hl rfl (AAe nm ap cp p AA hGm (A0.move (hl.since 0 rfl) hR)) ?_;rintro v Y2 ATJ rfl hl
  refine zA ?_;refine AG rfl (JF 87 (fun v S'=>∃Tk:List (List UInt8×Value),v= .bool (Jl nm.data.toList p&&!decide (p∈P.map Pr.C))∧OY U Tk (Gq nm.data.toList (P.map Pr.C) p) ((i:Int)+1)∧(∀x,x∈P→x.Ok S')∧CW S' (.slice ap p.length cp) p∧AE S [S] S' ((Hw,.cells [.string nm,.slice ap p.length cp] 44 false true [])::(Dg,.cells (cR (dg L i).1) 3 true true [])::(Ff,Bu kb Tk)::(Dv,Bu Sg.v Dn)::(B1,.cells [.string nm,.slice a L.length cap] 24 false true [])::(fO++[])) []) ?_ ?_)
  ·
   refine zg ?_;refine AZ (d:=83) rfl (fun Z5=>?_) (fun Z5=>?_)
   ·
    have BI:Jl nm.data.toList p=true:=Z5
    refine zg ?_
    refine D5 rfl rfl rfl rfl rfl rfl rfl (C8 (AOP Sm QS pa a2 E fb AA FD hO hl) ?_);rintro v Y3 ⟨rfl,G2⟩
    have DC:=fun x hx=>(DC x hx).move (AL.rk G2)
    have hR:=A0.move (AL.rk G2) hR
    have hl:AE S [S] Y3 ([(Hw,.cells [.string nm,.slice ap p.length cp] 44 false true []),(Dg,.cells (cR (dg L i).1) 3 true true [])]++(Ff,Bu kb Dk)::((Dv,Bu Sg.v Dn)::(B1,.cells [.string nm,.slice a L.length cap] 24 false true [])::(fO++[]))) []:=GJ.call G2
    have hl:=(hl.perm List.perm_middle).mark
    have hky:Og E=MM U p:=by rw[hE2];rfl
    refine D5 rfl rfl rfl rfl rfl rfl rfl (C8 (AOO S [Y3,S] _ _ Ff Dk (Og E) (i:Int) AA Qz.1 hl) ?_);rintro v V0 ⟨c,rfl,Q6,MG,hl⟩
    have DC:=fun x hx=>(DC x hx).move (hl.since 0 rfl)
    have hR:=A0.move (hl.since 0 rfl) hR
    have hl:AE S [S] V0 ((Ff,Bu kb (EZ Dk (Og E) (.int .i64 c)))::([(Hw,.cells [.string nm,.slice ap p.length cp] 44 false true []),(Dg,.cells (cR (dg L i).1) 3 true true [])]++((Dv,Bu Sg.v Dn)::(B1,.cells [.string nm,.slice a L.length cap] 24 false true [])::(fO++[])))) []:=hl.marks (Us:=[S]) (fun T hT=>BQ hT)
    have hl:=hl.perm List.perm_middle.symm
    have hl:AE S [S] V0 ((Hw,.cells [.string nm,.slice ap p.length cp] 44 false true [])::(Dg,.cells (cR (dg L i).1) 3 true true [])::(Ff,Bu kb (EZ Dk (Og E) (.int .i64 c)))::(Dv,Bu Sg.v Dn)::(B1,.cells [.string nm,.slice a L.length cap] 24 false true [])::(fO++[])) []:=hl
    have LG:=ANV hU7 Qz aS AA Q6 MG
    rw[hky]at hl ⊢
    refine zg ?_
    refine⟨rfl,_,bl rfl,sB,_,by rw[Qz.2.2 p aS,BI];rfl,?_,DC,hR,hl⟩
    rw[Gq,BI]
    exact LG
   have BI:Jl nm.data.toList p=false:=Z5
   have G2:=hl.AD
   have hl:AE S [S] Y2 ((Hw,.cells [.string nm,.slice ap p.length cp] 44 false true [])::(Dg,.cells (cR (dg L i).1) 3 true true [])::(Ff,Bu kb Dk)::(Dv,Bu Sg.v Dn)::(B1,.cells [.string nm,.slice a L.length cap] 24 false true [])::(fO++[])) []:=GJ.call G2
   refine zg ?_
   refine⟨rfl,_,bl rfl,sB,Dk,by rw[BI];rfl,?_,fun x hx=>(DC x hx).move (AL.rk G2),A0.move (AL.rk G2) hR,hl⟩
   rw[Gq,BI]
   exact ANT Qz
  clear hl hd GJ;rintro v qK ⟨Tk,rfl,uH,DC,hR,hl⟩
  refine zg ?_
  constructor<;>intro KF
  ·
   obtain⟨y,hy⟩:∃y:Pr,y=⟨ap,cp,p⟩:=⟨_,rfl⟩
   have FI:[Value.string nm,.slice ap p.length cp]=y.cells nm:=by rw[hy];rfl
   have hl:=hl.mark
   refine zg ?_;refine Ry hl rfl rfl rfl rfl rfl Tryz.underlying33 rfl (c:=y.cells nm) (by rw[←FI];kernel_rfl) ?_;intro B90 Sa jL hl
   have hl:AE S [qK,S] Sa ([(Hw,.cells [.string nm,.slice ap p.length cp] 44 false true []),(Dg,.cells (cR (dg L i).1) 3 true true []),(Ff,Bu kb Tk),(Dv,Bu Sg.v Dn),(B1,.cells [.string nm,.slice a L.length cap] 24 false true [])]++(fO++[])) []:=hl
   refine VC hl UI rfl rfl rfl rfl rfl rfl rfl Tryz.underlying33 Tryz.underlying33 rfl rfl (by decide) AB (Cj (n:=1) (cap:=1) (new:=y.cells nm) jL rfl) rfl rfl AB (by show P.length+1≤Ae;unfold Ae;omega) ?_;intro v91 f2 Sb Z8 hl
   obtain⟨As,rfl⟩:=Z8.is
   have Z8:=AJX Z8
   have RG:(P++[y]).map Pr.C=Gq nm.data.toList (P.map Pr.C) p:=by rw[Hm,Gq,KF,hy];rfl
   refine zg ?_
   refine⟨rfl,As,P++[y],Tk,f2,by rw[A8];omega,Z8,by rw[BL,RG],by rw[RG];exact uH,fun z hz=>?_,fun z hz=>?_,⟨rfl,by rw[A8 P y];rfl,rfl,rfl,rfl,rfl,rfl,trivial⟩,hl.marks (Us:=[S]) (fun T hT=>BQ hT)⟩
   ·rcases List.mem_append.1 hz with h|h
    ·exact(DC z h).move (hl.since 0 rfl)
    rw[List.mem_singleton.1 h,hy]
    exact A0.move (hl.since 0 rfl) hR
   rcases List.mem_append.1 hz with h|h
   ·exact H8 z h
   rw[List.mem_singleton.1 h,hy]
   show p.length≤1000
   omega
  have RG:P.map Pr.C=Gq nm.data.toList (P.map Pr.C) p:=by rw[Gq,KF];rfl
  refine zg ?_
  exact⟨rfl,av,P,Tk,fO,AA,UI,by rw[BL,←RG],by rw[RG];exact uH,DC,H8,sE,hl⟩
 clear hl GJ hd DC H8 Qz KG UJ hR BL UI;rintro Le S24 ⟨av,P,Dk,fO,UJ,UI,KG,Qz,DC,H8,AH,hl⟩;refine AK AH ?_
 refine AG rfl ?_
 have aJ:=AHX hi (fun x hx=>(A4 x hx).1)
 have hl:AE S [S] S24 ((Dg,.cells (cR (dg L i).1) 3 true true [])::(Ff,Bu kb Dk)::(Dv,Bu Sg.v Dn)::(B1,.cells [.string nm,.slice a L.length cap] 24 false true [])::(fO++[])) []:=hl.tail
 have K6:=sP (L:=L) (n:=i) A4
 generalize (dg L i).1=cs at hl Nh aJ K6
 have aY:cs.take L.length++(D0 (L.drop L.length) (cs.drop L.length)).1=cs:=by
  rw[List.drop_length,List.drop_eq_nil_of_le AA,List.take_of_length_le AA]
  exact List.append_nil _
 have JY:(D0 (L.drop L.length) (cs.drop L.length)).2=true:=by
  rw[List.drop_length,List.drop_eq_nil_of_le AA]
  rfl
 refine zS ?_;refine Az rfl ?_;refine AK (L':=[(20,.int .i64 ((L.length:Int)-1)),(13,.slice (some ⟨Dg,0,none⟩) L.length L.length),(12,.slice av P.length P.length),(11,.map (some Ff)),(6,.map (some Dv)),(3,.int .i64 0),(2,.slice none 0 0),(1,ptrTo B1 0)]) sE ?_
 refine A2 rfl (fun m Le S'=>∃j:Nat,j≤L.length∧m=j∧(D0 (L.drop j) (cs.drop j)).2=true∧(∀x,x∈P→x.Ok S')∧Af [(20,.int .i64 ((j:Int)-1)),(13,.slice (some ⟨Dg,0,none⟩) L.length L.length),(12,.slice av P.length P.length),(11,.map (some Ff)),(6,.map (some Dv)),(3,.int .i64 0),(2,.slice none 0 0),(1,ptrTo B1 0)] Le∧AE S [S] S' ((Dg,.cells (cR (cs.take j++(D0 (L.drop j) (cs.drop j)).1)) 3 true true [])::(Ff,Bu kb Dk)::(Dv,Bu Sg.v Dn)::(B1,.cells [.string nm,.slice a L.length cap] 24 false true [])::(fO++[])) []) ?_ (m:=L.length) ⟨L.length,AA,rfl,JY,DC,sE,by rw[aY];exact hl⟩
 clear hl DC AH aY JY;rintro m Le S' ⟨m,hj,rfl,UL,DC,AH,hl⟩;refine AK AH ?_
 refine zg ?_
 constructor<;>intro Qt
 ·
  obtain⟨j,rfl⟩:∃j,m=j+1:=⟨m-1,dT Qt⟩
  have e1:((j+1:Nat):Int)-1=(j:Int):=by omega
  rw[e1]
  obtain⟨x,hx⟩:=Ad (show j<L.length by omega)
  obtain⟨c,Wv⟩:=Ad (show j<cs.length by omega)
  have FH:=hs x (BV hx)
  have aG:=K6 c (BV Wv)
  have BH:=AHW hx Wv UL
  have iG:=vk (L.drop (j+1)) (cs.drop (j+1)) (by rw[List.length_drop,List.length_drop,Nh])
  rw[List.length_drop]at iG
  generalize hQ:D0 (L.drop (j+1)) (cs.drop (j+1))=Q at BH iG hl UL
  have gz:(cs.take j).length=j:=by rw[List.length_take];omega
  have hW:cs.take (j+1)++Q.1=cs.take j++c::Q.1:=by rw[QO Wv,List.append_assoc];rfl
  rw[hW]at hl
  have Iz:∀u v:Nat,(cs.take j++u::Q.1).set j v=cs.take j++v::Q.1:=fun u v=>by
   have:=zy (cs.take j) u v Q.1
   rw[gz]at this
   exact this
  have hlen:∀u:Nat,(cs.take j++u::Q.1).length=L.length:=fun u=>by rw[DS,gz,List.length_cons,iG];omega
  have u0:∀u:Nat,nth ((cs.take j++u::Q.1).map nc) j=some (u:Int):=fun u=>by
   rw[CE,List.getElem?_map,List.getElem?_append_right AA,gz,Nat.sub_self]
   rfl
  have AQ:=hl.at_ Dg _ Al
  have hw:CZ S' (.slice (some ⟨Dg,0,none⟩) ((cs.take j++c::Q.1).map nc).length ((cs.take j++c::Q.1).map nc).length) ((cs.take j++c::Q.1).map nc):=MR ⟨AQ.2.2,true,[],AQ.1⟩ rfl
  rw[D1,hlen]at hw
  obtain⟨b1,o1,BF,ha,_,XF,Aa⟩:=hw.elem (u0 c)
  refine zg ?_
  cases ha
  have e2:0+(j:Int).toNat*1=0+j:=by omega
  rw[e2]
  refine R0 rfl rfl rfl rfl rfl rfl (AAt AB (hl.get 0 rfl) (zT (v:=c+1) (by rw[hlen];omega) (Iz c (c+1)))) ?_
  have UK:=fun x hx=>xN (y:=AF.cells (cR (cs.take j++(c+1)::Q.1)) 3 true true []) (DC x hx) AQ.1 (by decide)
  have CY:=u6 hl (k:=0) rfl (fun g hg=>(List.not_mem_nil hg).elim) (AF.cells (cR (cs.take j++(c+1)::Q.1)) 3 true true [])
  clear hl DC hw XF Aa AQ
  generalize S'.set Dg (AF.cells (cR (cs.take j++(c+1)::Q.1)) 3 true true [])=S6 at CY UK ⊢
  have hl:AE S [S] S6 ((Dg,.cells (cR (cs.take j++(c+1)::Q.1)) 3 true true [])::(Ff,Bu kb Dk)::(Dv,Bu Sg.v Dn)::(B1,.cells [.string nm,.slice a L.length cap] 24 false true [])::(fO++[])) []:=CY
  clear CY
  have AQ:=hl.at_ Dg _ Al
  have hw:CZ S6 (.slice (some ⟨Dg,0,none⟩) ((cs.take j++(c+1)::Q.1).map nc).length ((cs.take j++(c+1)::Q.1).map nc).length) ((cs.take j++(c+1)::Q.1).map nc):=MR ⟨AQ.2.2,true,[],AQ.1⟩ rfl
  rw[D1,hlen]at hw
  have hl:=hl.mark
  obtain⟨b1,o1,BF,ha,_,XF,Aa⟩:=hw.elem (u0 (c+1))
  obtain⟨b2,o2,EH,a1,c1,FD,GK,F0,Fm⟩:=hv.elem hx
  refine zg ?_;refine BC (idx:=[0,1,2,3,4,5,6,7,8,9,10]) rfl AB AB ?_;refine zg ?_
  refine zp hl rfl (c6 a1 x.AT.length c1 x.blank FH) ?_;rintro v S7 hk7 D4 hl;refine⟨zt,?_⟩
  have D4:v= .int .i64 (EM x):=D4
  rw[YP]at D4
  subst D4
  have DC:=fun x hx=>A0.move (hl.since 0 rfl) (UK x hx)
  have hl:AE S [S] S7 ((Dg,.cells (cR (cs.take j++(c+1)::Q.1)) 3 true true [])::(Ff,Bu kb Dk)::(Dv,Bu Sg.v Dn)::(B1,.cells [.string nm,.slice a L.length cap] 24 false true [])::(fO++[])) []:=hl.marks (fun T hT=>BQ hT)
  clear AQ hw ha XF Aa FD GK F0 UK
  refine zg ?_
  constructor<;>intro tj
  ·
   have iV:decide (c+1<A6 x)=true:=by have:=I6 tj;exact decide_eq_true AA
   rw[iV]at BH
   have ue:=vm j L cs Nh (by rw[BH];rfl)
   have Q9:=aJ.2.1 (by rw[ue])
   have Hf:=aJ.2.2
   rw[ue,BH]at Hf
   have Hf:cs.take j++(c+1)::Q.1=(dg L (i+1)).1:=Hf
   rw[Hf]at hl
   have ei:((i+1:Nat):Int)=(i:Int)+1:=by omega
   refine zg ?_
   refine dn (rV AB (dn (zQ (rV AB (dn (rU AB ?_))))))
   exact⟨BR L-(i+1),AA,i+1,av,P,Dk,fO,Q9,rfl,UJ,UI,KG,by rw[ei];exact Qz,DC,H8,sE,hl⟩
  have iV:decide (c+1<A6 x)=false:=by have:=Jk tj;exact decide_eq_false AA
  rw[iV]at BH
  have BH:D0 (L.drop j) (cs.drop j)=(0::Q.1,true):=BH
  have AQ:=hl.at_ Dg _ Al
  refine zg ?_
  have e3:0+(j:Int).toNat*1=0+j:=by omega
  rw[e3]
  refine R0 rfl rfl rfl rfl rfl rfl (AAt AB (hl.get 0 rfl) (zT (v:=0) (by rw[hlen];omega) (Iz (c+1) 0))) ?_
  have UK:=fun x hx=>xN (y:=AF.cells (cR (cs.take j++0::Q.1)) 3 true true []) (DC x hx) AQ.1 (by decide)
  have CY:=u6 hl (k:=0) rfl (fun g hg=>(List.not_mem_nil hg).elim) (AF.cells (cR (cs.take j++0::Q.1)) 3 true true [])
  clear hl DC AQ
  generalize S7.set Dg (AF.cells (cR (cs.take j++0::Q.1)) 3 true true [])=S8 at CY UK ⊢
  have hl:AE S [S] S8 ((Dg,.cells (cR (cs.take j++0::Q.1)) 3 true true [])::(Ff,Bu kb Dk)::(Dv,Bu Sg.v Dn)::(B1,.cells [.string nm,.slice a L.length cap] 24 false true [])::(fO++[])) []:=CY
  refine zg ?_
  exact⟨j,AA,j,AA,rfl,by rw[BH],UK,sE,by rw[BH];exact hl⟩
 have HJ:m=0:=dF Qt
 subst HJ
 rw[List.drop_zero,List.drop_zero]at UL
 have BH:=aJ.1 UL
 refine zg ?_
 exact Pk (y2 rfl rfl ⟨hl.AD,.inr ⟨h0,av,P,rfl,OW.at_ (f:=Pr.cells nm) (fun _=>rfl) UI hl (fun q hq=>BQ (BQ (BQ (BQ (List.mem_append.2 (.inl hq)))))),DC,by rw[←BH];exact KG,AA,H8⟩⟩)
end Go.Proofs.YtmfphenhpkgidaaGreatDoor

/-
  The reference: mensurations.
-/
import Derived.Test.YtmfphenhpkgidaaGreatDoorSmC
namespace Go.Proofs.YtmfphenhpkgidaaGreatDoor
open Go.Cm Go
set_option maxRecDepth 100000
variable{S:St}
abbrev EY(p q r t:Int):Value:=AX [.int .i64 p,.int .i64 q,.int .i64 r,.int .i64 t]
def LV(p q r t k:Int):Int:=bif k==1 then p else bif k==2 then q else bif k==3 then r else bif k==4 then t else 2
def qP(v:Value):Prop:= ∃(t:Ti) (e:Int),v=Aw [t.v,.int .i64 e]
theorem Pp(p q r t k:Int):CC Tryz.prog KK 178 [EY p q r t,.int .i64 k] S (fun v S'=>AL S S'∧(v= .int .i64 (LV p q r t k))):=by
 refine ce 22 Tryz.func178 fun hl=>?_;refine zg ?_;refine bL hl fun B2 S1 hl=>?_;refine zg ?_
 constructor<;>intro h1
 ·
  refine zg ?_
  exact AR (z1 rfl ⟨hl.AD,by unfold LV;rw[h1];rfl⟩)
 refine zg ?_
 constructor<;>intro h2
 ·
  refine zg ?_
  exact AR (z1 rfl ⟨hl.AD,by unfold LV;rw[h1,h2];rfl⟩)
 refine zg ?_
 constructor<;>intro h3
 ·
  refine zg ?_
  exact AR (z1 rfl ⟨hl.AD,by unfold LV;rw[h1,h2,h3];rfl⟩)
 refine zg ?_
 constructor<;>intro h4
 ·
  refine zg ?_
  exact AR (z1 rfl ⟨hl.AD,by unfold LV;rw[h1,h2,h3,h4];rfl⟩)
 refine zg ?_
 exact y1 rfl ⟨hl.AD,by unfold LV;rw[h1,h2,h3,h4];rfl⟩
def QQ(p q r t k:Int):Int:=bif Gi p q r t !=0 then Gi p q r t else bif decide (k<1)||decide (k>8)then 2 else 0
theorem AAU(p q r t k:Int):CC Tryz.prog KK 273 [EY p q r t,.int .i64 k] S (fun v S'=>AL S S'∧(v= .int .i64 (QQ p q r t k))):=by
 refine ce 17 Tryz.func273 fun hl=>?_;refine zg ?_;refine bL hl fun B2 S1 hl=>?_;refine zg ?_
 refine zc hl rfl (YV p q r t) ?_;rintro v S1 AM rfl hl
 refine zg ?_
 constructor<;>intro h9
 ·
  refine zg ?_
  exact(z1 rfl ⟨hl.AD,by unfold QQ;rw[h9];rfl⟩)
 refine Ar rfl ?_;refine AG rfl ?_;refine AG rfl (CR hl 16 (.bool (decide (k<1)||decide (k>8))) ?_ rfl ?_)
 ·
  refine zg ?_;refine AZ (d:=13) rfl (fun EA=>?_) (fun EA=>?_)
  ·
   refine zg ?_
   exact⟨rfl,bl (by rw[EA];rfl),sB,hl⟩
  refine zg ?_
  exact⟨rfl,bl (by rw[EA];rfl),sB,hl⟩
 intro S1 hl
 refine zg ?_
 constructor<;>intro Bt
 ·
  refine zg ?_
  exact(z1 rfl ⟨hl.AD,by unfold QQ;rw[h9,Bt];rfl⟩)
 refine zg ?_
 exact y1 rfl ⟨hl.AD,by unfold QQ;rw[h9,Bt];rfl⟩
def Lt(p q r t:Int):Nat→Int
 |0=>0
 |w+1=>bif LV p q r t ((w+1:Nat):Int)==3 then((w+1:Nat):Int)else Lt p q r t w
def Hy(p q r t k:Int):Int:=bif QQ p q r t k !=0 then 0 else Lt p q r t (k-1).toNat
theorem AAT(p q r t k:Int):CC Tryz.prog KK 271 [EY p q r t,.int .i64 k] S (fun v S'=>AL S S'∧(v=Aw [.int .i64 (Hy p q r t k),.int .i64 (QQ p q r t k)])):=by
 refine ce 25 Tryz.func271 fun hl=>?_;refine zg ?_;refine bL hl fun B2 S2 hl=>?_;refine zg ?_
 refine zc hl rfl (AAU p q r t k) ?_;rintro v S1 AM rfl hl
 refine zg ?_
 constructor<;>intro Cf
 ·
  refine zg ?_
  exact(z2 rfl rfl ⟨hl.AD,by unfold Hy;rw[Cf];rfl⟩)
 have RQ:QQ p q r t k=0:=by simpa using Cf
 have hk:1≤k∧k≤8:=by
  unfold QQ at RQ
  cases hm:Gi p q r t !=0 with
  |true=>rw[hm]at RQ;simp at hm;exact absurd RQ hm
  |false =>
   rw[hm]at RQ
   cases hb:decide (k<1)||decide (k>8)with
   |true=>rw[hb]at RQ;cases RQ
   |false=>simp only[Bool.or_eq_false_iff,decide_eq_false_iff_not]at hb;omega
 have hab:Hy p q r t k=Lt p q r t (k-1).toNat:=by unfold Hy;rw[Cf];rfl
 rw[hab,RQ]
 refine zg ?_;refine AK (L':=[(7,.int .i64 (k-1)),(5,.int .i64 0),(4,.int .i64 0),(2,ptrTo B2 0)]) sE ?_
 refine A2 rfl (fun m Le S'=>∃w:Nat,w≤8∧w=m∧Lt p q r t w=Lt p q r t (k-1).toNat∧Af [(7,.int .i64 (w:Int)),(5,.int .i64 0),(4,.int .i64 0),(2,ptrTo B2 0)] Le∧AE S [S] S' [(B2,.cells [.int .i64 p,.int .i64 q,.int .i64 r,.int .i64 t] 51 false true [])] []) ?_ (m:=(k-1).toNat) ⟨(k-1).toNat,AA,rfl,rfl,⟨congrArg some (congrArg (Value.int .i64) AA),rfl,rfl,rfl,trivial⟩,hl⟩
 clear hl;rintro m Le S' ⟨w,hw,rfl,BH,AH,hl⟩;refine AK AH ?_
 refine zg ?_
 constructor<;>intro Dl
 ·
  obtain⟨w,rfl⟩:∃j,w=j+1:=⟨w-1,dT Dl⟩
  refine zg ?_
  refine zc hl rfl (Pp p q r t ((w+1:Nat):Int)) ?_;rintro v S1 AM rfl hl
  refine zg ?_
  constructor<;>intro DG
  ·
   refine zg ?_
   have e:Lt p q r t (w+1)=((w+1:Nat):Int):=by rw[Lt,DG];rfl
   exact AR (Ai (Bg (AR ((z2 rfl rfl ⟨hl.AD,by rw[←BH,e]⟩)))))
  have e:Lt p q r t (w+1)=Lt p q r t w:=by rw[Lt,DG];rfl
  refine zg ?_
  exact⟨w,AA,w,AA,rfl,by rw[←BH,e],⟨congrArg some (congrArg (Value.int .i64) AA),rfl,rfl,rfl,trivial⟩,hl⟩
 have aY:w=0:=dF Dl
 subst aY
 refine zg ?_
 exact y2 rfl rfl ⟨hl.AD,by rw[←BH];rfl⟩
abbrev Cx(av:Option Addr)(D:List Int):Gr:=Hc 3 1 ic (.slice av D.length D.length) D
theorem JQ{Ts:List St}{S0 S1:St}{l:List (Nat×AF)}{av:Option Addr}{D:List Int}{x:Int}(h:AE S0 Ts S1 l [⟨.slice av (D.length+1) (D.length+1),3,1,(D.map ic).flatten++ic x,D.length+1⟩]):AE S0 Ts S1 l [Cx av (D++[x])]:=by
 unfold Cx
 rw[Im]
 exact h
theorem AAH(p q r t:Int):CC Tryz.prog KK 143 [EY p q r t] S (fun v S'=>AL S S'∧((∃e:Int,e≠0∧v=Aw [.slice none 0 0,.int .i64 e])∨∃av D,v=Aw [.slice av D.length D.length,.int .i64 0]∧CZ S' (.slice av D.length D.length) D∧D.length≤4∧∀x,x∈D→1≤x∧x≤4)):=by
 refine ce 25 Tryz.func143 fun hl=>?_;refine zg ?_;refine bL hl fun B1 S1 hl=>?_;refine zg ?_
 refine zc hl rfl (YV p q r t) ?_;rintro v S1 AM rfl hl
 refine zg ?_
 constructor<;>intro Bs
 ·
  refine zg ?_
  exact(z2 rfl rfl ⟨hl.AD,.inl ⟨_,by simpa using Bs,rfl⟩⟩)
 refine zg ?_
 have hl:=hl.D2 (g:=Cx none []) (.inl ⟨rfl,rfl,rfl⟩)
 refine AK (L':=[(6,.int .i64 4),(5,.slice none 0 0),(3,.int .i64 0),(2,.slice none 0 0),(1,ptrTo B1 0)]) sE ?_
 refine A2 rfl (fun m Le S'=>∃(w:Nat) (av:Option Addr) (D:List Int),w≤4∧w=m∧D.length+w≤4∧(∀x,x∈D→1≤x∧x≤4)∧Af [(6,.int .i64 (w:Int)),(5,.slice av D.length D.length),(3,.int .i64 0),(2,.slice none 0 0),(1,ptrTo B1 0)] Le∧AE S [S] S' [(B1,.cells [.int .i64 p,.int .i64 q,.int .i64 r,.int .i64 t] 51 false true [])] [Cx av D]) ?_ (m:=4) ⟨4,none,[],AA,rfl,by show 0+4≤4;omega,fun x hx=>(List.not_mem_nil hx).elim,sE,hl⟩
 clear hl;rintro m Le S' ⟨w,av,D,hw,rfl,hD,BI,AH,hl⟩;refine AK AH ?_
 refine zg ?_
 constructor<;>intro EA
 ·
  obtain⟨w,rfl⟩:∃j,w=j+1:=⟨w-1,dT EA⟩
  have ew:((w+1:Nat):Int)-1=(w:Int):=by omega
  refine zg ?_
  refine zc hl rfl (Pp p q r t ((w+1:Nat):Int)) ?_;rintro v S1 AM rfl hl
  refine zg ?_
  constructor<;>intro DN
  ·
   refine zg ?_;refine dL hl (ic ((w+1:Nat):Int)) Tryz.underlying38 fun B22 S1 AG1 hl=>?_;refine DZ hl 0 rfl rfl (by simp) rfl rfl rfl rfl rfl rfl rfl Tryz.underlying38 Tryz.underlying38 rfl rfl AB (Cj (n:=1) (cap:=1) AG1 rfl) rfl rfl AB (by show D.length+1≤Ae;unfold Ae;omega) ?_;intro v23 S1 hl
   obtain⟨As,rfl⟩:∃x,v23= .slice x (D.length+1) (D.length+1):=Am.C5 (hl.gr _ Al)
   have hl:AE S [S] S1 _ [Cx As (D++[((w+1:Nat):Int)])]:=JQ hl
   refine zg ?_
   refine⟨w,AA,w,As,D++[((w+1:Nat):Int)],AA,rfl,by rw[A8];omega,fun x hx=>?_,⟨congrArg some (congrArg (Value.int .i64) ew),by rw[A8];rfl,rfl,rfl,rfl,trivial⟩,hl⟩
   rcases List.mem_append.1 hx with h|h
   ·exact BI x h
   rw[List.mem_singleton.1 h];omega
  refine zg ?_
  exact⟨w,AA,w,av,D,AA,rfl,AA,BI,⟨congrArg some (congrArg (Value.int .i64) ew),rfl,rfl,rfl,rfl,trivial⟩,hl⟩
 refine zg ?_
 exact y2 rfl rfl ⟨hl.AD,.inr ⟨av,D,rfl,Am.ls (f:=ic) (fun _=>rfl) (hl.gr _ Al),AA,BI⟩⟩
theorem oC(p q r t k:Int)(hk: -100≤k∧k≤100):CC Tryz.prog KK 222 [EY p q r t,.int .i64 k] S (fun v S'=>AL S S'∧(qP v)):=by
 refine ce 38 Tryz.func222 fun hl=>?_;refine zg ?_;refine bL hl fun B2 S2 hl=>?_;refine aL hl [.int .i64 0,.int .i64 0] fun B4 S4 hl=>?_;refine zg ?_
 refine zc hl rfl (AAU p q r t k) ?_;rintro v S1 AM rfl hl
 refine zg ?_
 constructor<;>intro Bo
 ·
  refine zg ?_;refine rr rfl (A9 rfl rfl (v:=AX [.int .i64 0,.int .i64 0]) (by rfl)) ?_;refine zg ?_;refine sL hl 0 [.int .i64 0,.int .i64 0] fun S1 hl=>?_;refine zg ?_
  exact Ai (BA (Bm rfl (lN (z:=2) (hl.get 0 rfl) rfl) (BD rfl rfl)) ⟨hl.AD,⟨0,0⟩,_,rfl⟩)
 refine zg ?_;refine AK (L':=[(9,.int .i64 k),(8,.int .i64 1),(7,.int .i64 1),(5,.int .i64 0),(4,ptrTo B4 0),(2,ptrTo B2 0),(1,.int .i64 k)]) sE ?_
 refine A2 rfl (fun m Le S'=>∃i N:Int, -100≤i∧i≤100∧m=(100-i).toNat∧Af [(9,.int .i64 i),(8,.int .i64 1),(7,.int .i64 N),(5,.int .i64 0),(4,ptrTo B4 0),(2,ptrTo B2 0),(1,.int .i64 k)] Le∧AE S [S] S' [(B4,.cells [.int .i64 0,.int .i64 0] 103 false true []),(B2,.cells [.int .i64 p,.int .i64 q,.int .i64 r,.int .i64 t] 51 false true [])] []) ?_ (m:=(100-k).toNat) ⟨k,1,hk.1,hk.2,rfl,sE,hl⟩
 clear hl;rintro m Le S' ⟨i,N,hi,DH,rfl,AH,hl⟩;refine AK AH ?_
 refine zg ?_
 constructor<;>intro Cq
 ·
  have Cq:=I6 Cq
  refine zg ?_
  refine zc hl rfl (Pp p q r t i) ?_;rintro v S1 AM rfl hl
  refine zg ?_
  exact⟨(100-(i+1)).toNat,AA,i+1,_,AA,AA,rfl,sE,hl⟩
 clear hi DH
 refine zg ?_;refine AK (L':=[(10,.int .i64 k),(8,.int .i64 1),(7,.int .i64 N),(5,.int .i64 0),(4,ptrTo B4 0),(2,ptrTo B2 0)]) sE ?_
 refine A2 rfl (fun m Le S'=>∃i D:Int, -100≤i∧i≤100∧m=(i+100).toNat∧Af [(10,.int .i64 i),(8,.int .i64 D),(7,.int .i64 N),(5,.int .i64 0),(4,ptrTo B4 0),(2,ptrTo B2 0)] Le∧AE S [S] S' [(B4,.cells [.int .i64 0,.int .i64 0] 103 false true []),(B2,.cells [.int .i64 p,.int .i64 q,.int .i64 r,.int .i64 t] 51 false true [])] []) ?_ (m:=(k+100).toNat) ⟨k,1,hk.1,hk.2,rfl,sE,hl⟩
 clear hl AH;rintro m Le S' ⟨i,D,hi,DH,rfl,AH,hl⟩;refine AK AH ?_
 refine zg ?_
 constructor<;>intro CJ
 ·
  have CJ:=I6 CJ
  refine zg ?_
  exact⟨(i-1+100).toNat,AA,i-1,_,AA,AA,rfl,sE,hl⟩
 refine zg ?_;refine rr rfl (A9 rfl rfl (v:=AX (Ti.mk N D).cells) (by rfl)) ?_;refine sL hl 0 ((Ti.mk N D).cells) fun S1 hl=>?_;refine zg ?_
 exact BA (Bm rfl (lN (z:=2) (hl.get 0 rfl) rfl) (BD rfl rfl)) ⟨hl.AD,⟨N,D⟩,_,rfl⟩
theorem AAO(p q r t k:Int)(hk: -50≤k∧k≤50):CC Tryz.prog KK 227 [EY p q r t,.int .i64 k] S (fun v S'=>AL S S'∧(qP v)):=by
 refine ce 32 Tryz.func227 fun hl=>?_;refine zg ?_;refine bL hl fun B2 S2 hl=>?_;refine aL hl [.int .i64 0,.int .i64 0] fun B4 S4 hl=>?_;refine zg ?_
 refine zc hl rfl (YV p q r t) ?_;rintro v S1 AM rfl hl
 refine zg ?_
 constructor<;>intro Bs
 ·
  refine zg ?_;refine rr rfl (A9 rfl rfl (v:=AX [.int .i64 0,.int .i64 0]) (by rfl)) ?_;refine zg ?_;refine sL hl 0 [.int .i64 0,.int .i64 0] fun S1 hl=>?_;refine zg ?_
  exact Ai (BA (Bm rfl (lN (z:=2) (hl.get 0 rfl) rfl) (BD rfl rfl)) ⟨hl.AD,⟨0,0⟩,_,rfl⟩)
 refine Ar rfl ?_;refine AG rfl ?_;refine AG rfl (HW hl 24 Value.bool ?_ rfl ?_)
 ·
  refine zg ?_;refine AZ (d:=15) rfl (fun Bo=>?_) (fun Bo=>?_)
  ·
   refine zg ?_
   exact⟨rfl,⟨_,bl rfl⟩,sB,hl⟩
  refine zg ?_;refine AZ (d:=19) rfl (fun DN=>?_) (fun DN=>?_)
  ·
   refine zg ?_
   exact⟨rfl,⟨_,bl rfl⟩,sB,hl⟩
  refine zg ?_
  refine zc hl rfl (Pp p q r t k) ?_;rintro v S1 AM rfl hl
  refine zg ?_
  exact⟨rfl,⟨_,bl rfl⟩,sB,hl⟩
 intro q24 S1 hl
 refine zg ?_
 constructor<;>intro Ef
 ·
  refine zg ?_;refine rr rfl (A9 rfl rfl (v:=AX [.int .i64 0,.int .i64 0]) (by rfl)) ?_;refine sL hl 0 [.int .i64 0,.int .i64 0] fun S1 hl=>?_;refine zg ?_
  exact Ai (BA (Bm rfl (lN (z:=2) (hl.get 0 rfl) rfl) (BD rfl rfl)) ⟨hl.AD,⟨0,0⟩,_,rfl⟩)
 refine zg ?_
 refine zc hl rfl (oC p q r t (k+1) AA) ?_;rintro v S1 AM ⟨u,e,rfl⟩ hl
 refine zg ?_;refine sL hl 0 u.cells fun S1 hl=>?_;refine zg ?_
 exact BA (Bm rfl (lN (z:=2) (hl.get 0 rfl) rfl) (BD rfl rfl)) ⟨hl.AD,u,e,rfl⟩
end Go.Proofs.YtmfphenhpkgidaaGreatDoor
namespace Go.Proofs.YtmfphenhpkgidaaGreatDoor
open Go.Cm Go
set_option maxRecDepth 100000
variable{S:St}
def V1(p q r t:Int)(C:List Sg)(i:Nat)(s:Sg):Prop:=((s.kind=1∨s.kind=2)∧1≤s.value∧s.value≤8)∨(s.kind=3∧∃j s',i=j+1∧nth C j=some s'∧s'.kind≠3∧¬(s'.kind=2∧Hy p q r t s'.value=0))
structure M8(p q r t:Int)(C:List Sg):Prop where
 m:Gi p q r t=0
 s:∀i s,nth C i=some s→V1 p q r t C i s
theorem AOC(a:Option Addr)(cap:Nat)(C:List Sg)(i:Nat)(hn:C.length≤1000)(hi:i<C.length)(_:BW S)(hv:CW S (.slice a C.length cap) C):CC Tryz.prog KK 270 [.slice a C.length cap,.int .i64 (i:Int)] S (fun v S'=>AL S S'∧(((i=0∨∃s',nth C (i-1)=some s'∧s'.kind=3)∧v= .int .i64 (-1))∨∃j s',i=j+1∧nth C j=some s'∧s'.kind≠3∧v= .int .i64 (j:Int))):=by
 refine ce 18 Tryz.func270 fun hl=>?_;refine zS ?_;refine AG rfl ?_;refine AG rfl (JF 15 (fun v S'=>∃B:Bool,v= .bool B∧(B=true→∃j s',i=j+1∧nth C j=some s'∧s'.kind≠3)∧(B=false→i=0∨∃s',nth C (i-1)=some s'∧s'.kind=3)∧AE S [S] S' [] []) ?_ ?_)
 ·
  refine zg ?_;refine AZ (d:=7) rfl (fun h7=>?_) (fun h7=>?_)
  ·
   obtain⟨j,rfl⟩:∃j,i=j+1:=⟨i-1,dT h7⟩
   obtain⟨s',hs⟩:=Ad (show j<C.length by omega)
   obtain⟨b1,o1,BF,ha,_,AQ,Aa⟩:=hv.elem hs
   have ej:((j+1:Nat):Int)-1=(j:Int):=by omega
   refine zg ?_
   rw[ej]
   refine zg ?_
   exact⟨rfl,_,bl rfl,sB,_,rfl,fun h=>⟨j,s',rfl,hs,by simpa using h⟩,fun h=> .inr ⟨s',hs,by simpa using h⟩,hl⟩
  refine zg ?_
  exact⟨rfl,_,bl rfl,sB,false,rfl,nofun,fun _=> .inl (dF h7),hl⟩
 rintro v S1 ⟨B,rfl,hB,hB2,hl⟩
 refine zg ?_
 constructor<;>intro Bo
 ·
  obtain⟨j,s',rfl,hs,hk⟩:=hB Bo
  have ej:((j+1:Nat):Int)-1=(j:Int):=by omega
  refine zg ?_
  exact(z1 rfl ⟨hl.AD,.inr ⟨j,s',rfl,hs,hk,by rw[ej]⟩⟩)
 refine zg ?_
 exact y1 rfl ⟨hl.AD,.inl ⟨hB2 Bo,rfl⟩⟩
theorem oB(p q r t:Int)(a:Option Addr)(cap:Nat)(C:List Sg)(hn:C.length≤1000)(hF:BW S)(hv:CW S (.slice a C.length cap) C):CC Tryz.prog KK 218 [EY p q r t,.slice a C.length cap] S (fun v S'=>AL S S'∧(∃e:Int,v= .int .i64 e∧(e=0↔M8 p q r t C))):=by
 refine ce 70 Tryz.func218 fun hl=>?_;refine zg ?_;refine bL hl fun B2 S2 hl=>?_;refine zg ?_
 refine zc hl rfl (YV p q r t) ?_;rintro v S1 AM rfl hl
 refine zg ?_
 constructor<;>intro EA
 ·
  have hm:Gi p q r t≠0:=by simpa using EA
  refine zg ?_
  exact(z1 rfl ⟨hl.AD,_,rfl,fun h=>absurd h hm,fun h=>h.m⟩)
 have hm:Gi p q r t=0:=by simpa using EA
 refine zg ?_;refine AK (L':=[(6,.int .i64 0),(4,.int .i64 0),(2,ptrTo B2 0),(1,.slice a C.length cap)]) sE ?_
 refine A2 rfl (fun m Le S'=>∃i:Nat,i≤C.length∧m=C.length-i∧(∀j s,j<i→nth C j=some s→V1 p q r t C j s)∧Af [(6,.int .i64 (i:Int)),(4,.int .i64 0),(2,ptrTo B2 0),(1,.slice a C.length cap)] Le∧AE S [S] S' [(B2,.cells [.int .i64 p,.int .i64 q,.int .i64 r,.int .i64 t] 51 false true [])] []) ?_ (m:=C.length) ⟨0,AA,AA,fun j s h=>absurd h AA,sE,hl⟩
 clear hl;rintro m Le S' ⟨i,hi,rfl,KM,AH,hl⟩;refine AK AH ?_
 refine zg ?_
 constructor<;>intro Ct
 ·
  have AN:i<C.length:=dT Ct
  obtain⟨s,hs⟩:=Ad AN
  obtain⟨b1,o1,BF,ha,_,AQ,Aa⟩:=hv.elem hs
  have aE:∀{e:Int},e≠0→¬V1 p q r t C i s→(e=0↔M8 p q r t C):=fun he hb=>⟨fun h=>absurd h he,fun h=>absurd (h.s i s hs) hb⟩
  have uU:V1 p q r t C i s→∀j u,j<i+1→nth C j=some u→V1 p q r t C j u:=fun h j u hj hu=>by
   rcases Nat.lt_or_ge j i with h2|h2
   ·exact KM j u h2 hu
   obtain rfl:j=i:=by omega
   rw[hs]at hu
   cases hu
   exact h
  refine Ar rfl ?_;refine AG rfl ?_;refine Az rfl ?_;refine zS ?_;refine Az rfl ?_;refine AG rfl (CR hl 26 (.bool ((s.kind==1)||(s.kind==2))) ?_ rfl ?_)
  ·
   refine zg ?_
   constructor<;>intro C3
   ·
    refine zg ?_
    exact⟨rfl,bl (by rw[C3];rfl),sB,hl⟩
   refine zg ?_
   exact⟨rfl,bl (by rw[C3];rfl),sB,hl⟩
  intro S1 hl
  refine zi tt rfl ?_
  constructor<;>intro C3
  ·
   have hk:s.kind=1∨s.kind=2:=by simpa using C3
   refine AG rfl (CR hl 42 (.bool (decide (s.value<1)||decide (s.value>8))) ?_ rfl ?_)
   ·
    refine zg ?_;refine AZ (d:=35) rfl (fun Dz=>?_) (fun Dz=>?_)
    ·
     refine zg ?_
     exact⟨rfl,bl (by rw[Dz];rfl),sB,hl⟩
    refine zg ?_
    exact⟨rfl,bl (by rw[Dz];rfl),sB,hl⟩
   intro S1 hl
   refine zg ?_
   constructor<;>intro Oy
   ·
    simp only[Bool.or_eq_true,decide_eq_true_eq]at Oy
    refine zg ?_
    exact AR (AR (Ai (Bg (AR ((z1 rfl ⟨hl.AD,_,rfl,aE (by decide) (fun h=>by rcases h with h|h;omega;omega)⟩))))))
   simp only[Bool.or_eq_false_iff,decide_eq_false_iff_not]at Oy
   refine zg ?_
   exact⟨C.length-(i+1),AA,i+1,AA,rfl,uU (.inl ⟨hk,AA⟩),sE,hl⟩
  have hk:s.kind≠1∧s.kind≠2:=by simpa using C3
  refine zg ?_
  constructor<;>intro FB
  ·
   have Cn:s.kind=3:=by simpa using FB
   have hl:=hl.mark
   refine zg ?_
   refine zc hl rfl (AOC a cap C i hn AN (hl.AD.3 hF) (hv.move (hl.since 1 rfl))) ?_;rintro v S3 AM aX hl
   rcases aX with ⟨PA,rfl⟩|⟨j,s',rfl,hj,ug,rfl⟩
   ·
    refine zg ?_
    refine Ai (AR (AR (Ai (Bg (AR ((z1 rfl ⟨hl.AD,_,rfl,aE (by decide) (fun h=>?_)⟩)))))))
    rcases h with h|⟨_,j,u,rfl,hu,Ua,_⟩
    ·omega
    rcases PA with h|⟨s',h,h2⟩
    ·omega
    rw[Nat.add_sub_cancel,hu]at h
    cases h
    exact Ua h2
   clear ha AQ Aa
   obtain⟨b1,o1,BF,ha,_,AQ,Aa⟩:=hv.elem hj
   refine zg ?_
   refine BC (idx:=[0,1,2,3,4,5,6,7,8,9,10,11]) rfl AB AB ?_;refine zg ?_
   refine zp hl rfl (AAT p q r t s'.value) ?_;rintro v S1 AM rfl hl;refine⟨zt,?_⟩
   refine zA ?_;refine AG rfl (CR hl 69 (.bool ((s'.kind==2)&&(Hy p q r t s'.value==0))) ?_ rfl ?_)
   ·
    refine zg ?_;refine AZ (d:=66) rfl (fun JS=>?_) (fun JS=>?_)
    ·
     refine zg ?_
     exact⟨rfl,bl (by rw[JS];rfl),sB,hl⟩
    refine zg ?_
    exact⟨rfl,bl (by rw[JS];rfl),sB,hl⟩
   intro S1 hl
   refine zg ?_
   constructor<;>intro GH
   ·
    have GH:s'.kind=2∧Hy p q r t s'.value=0:=by simpa using GH
    refine zg ?_
    refine AR (AR (Ai (Bg (AR ((z1 rfl ⟨hl.AD,_,rfl,aE (by decide) (fun h=>?_)⟩))))))
    rcases h with h|⟨_,j2,u,e2,hu,Ua,hu4⟩
    ·omega
    obtain rfl:j=j2:=by omega
    rw[hj]at hu
    cases hu
    exact hu4 GH
   have GH:¬(s'.kind=2∧Hy p q r t s'.value=0):=by simpa using GH
   refine zg ?_
   exact⟨C.length-(j+1+1),AA,j+1+1,AA,rfl,uU (.inr ⟨Cn,j,s',rfl,hj,ug,GH⟩),sE,hl.marks (Us:=[S]) (fun T hT=>by rw[List.mem_singleton.1 hT];repeat (first|exact Al|refine BQ ?_))⟩
  have Cn:s.kind≠3:=by simpa using FB
  refine zg ?_
  exact AR (AR (Ai (Bg (AR ((z1 rfl ⟨hl.AD,_,rfl,aE (by decide) (fun h=>by rcases h with h|h;omega;exact Cn h.1)⟩))))))
 have DH:i=C.length:=dF Ct
 refine zg ?_
 exact y1 rfl ⟨hl.AD,0,rfl,fun _=>⟨hm,fun j s hj=>KM j s (by rw[DH];exact I5 hj) hj⟩,fun _=>rfl⟩
end Go.Proofs.YtmfphenhpkgidaaGreatDoor
namespace Go.Proofs.YtmfphenhpkgidaaGreatDoor
open Go.Cm Go
set_option maxRecDepth 100000
variable{S:St}
def IM(p q r t:Int)(s:Sg):Nat:=bif s.kind==2 then 1 else bif s.color then 1 else bif (LV p q r t s.value==2)&&(Hy p q r t s.value==0)then 1 else bif LV p q r t s.value==2 then 2 else bif Hy p q r t s.value==0 then 1 else 2
theorem AIm(p q r t:Int)(s:Sg):1≤IM p q r t s∧IM p q r t s≤2:=by
 unfold IM
 cases s.kind==2<;>cases s.color<;>cases (LV p q r t s.value==2)<;>cases (Hy p q r t s.value==0)<;>decide
def FX(p q r t:Int)(C:List Sg):Nat→List Nat
 |0=>[]
 |i+1=>FX p q r t C i++(match nth C i with
  |some s=>bif s.kind==3 then [match nth C (i-1)with
   |some s'=>IM p q r t s'
   |none=>1]else []
  |none=>[])
def GP(C:List Sg):Nat→Nat
 |0=>0
 |i+1=>GP C i+(match nth C i with
  |some s=>bif s.kind==3 then 0 else 1
  |none=>0)
section
variable{p q r t:Int}{C:List Sg}{i j:Nat}{s s':Sg}
theorem xG(h:nth C (i+1)=some s)(hk:s.kind=3)(h2:nth C i=some s'):FX p q r t C (i+1+1)=FX p q r t C (i+1)++[IM p q r t s']:=by
 show FX p q r t C (i+1)++(match nth C (i+1)with
  |some s=>bif s.kind==3 then [match nth C (i+1-1)with
   |some s'=>IM p q r t s'
   |none=>1]else []
  |none=>[])=_
 rw[h,Nat.add_sub_cancel,h2]
 simp only[hk,beq_self_eq_true,cond_true]
theorem xH(h:nth C i=some s)(hk:s.kind≠3):FX p q r t C (i+1)=FX p q r t C i:=by
 show FX p q r t C i++_=_
 rw[h]
 have:(s.kind==3)=false:=by simpa using hk
 simp only[this,cond_false,List.append_nil]
theorem lV:∀(n:Nat),∀x,x∈FX p q r t C n→1≤x∧x≤2
 |0,x,h=>(List.not_mem_nil h).elim
 |n+1,x,h=>by
  rcases List.mem_append.1 h with h|h
  ·exact lV n x h
  split at h
  ·rename_i s _
   cases hk:s.kind==3 with
   |true =>
    rw[hk]at h
    rw[List.mem_singleton.1 h]
    split
    ·exact AIm ..
    decide
   |false=>rw[hk]at h;cases h
  cases h
theorem AIM:∀{n m:Nat},n≤m→(FX p q r t C n).length≤(FX p q r t C m).length:=by
 intro n m h
 induction m with
 |zero=>rw[show n=0 by omega];exact Nat.le_refl _
 |succ m ih =>
  rcases Nat.lt_or_ge n (m+1)with h2|h2
  ·have:=ih AA
   rw[FX,DS]
   omega
  rw[show n=m+1 by omega]
  exact Nat.le_refl _
theorem Ut(n:Nat):(FX p q r t C n).length≤n:=by
 induction n with
 |zero=>exact Nat.le_refl _
 |succ n ih =>
  rw[FX,DS]
  have:(match nth C n with
  |some s=>bif s.kind==3 then [match nth C (n-1)with
   |some s'=>IM p q r t s'
   |none=>1]else []
  |none=>[]).length≤1:=by
   split
   ·rename_i s _
    cases s.kind==3<;>simp
   simp
  omega
theorem bk(h:nth C i=some s)(hk:s.kind=3):GP C (i+1)=GP C i:=by
 show GP C i+_=_
 rw[h]
 simp only[hk,beq_self_eq_true,cond_true,Nat.add_zero]
theorem Xb(h:nth C i=some s)(hk:s.kind≠3):GP C (i+1)=GP C i+1:=by
 show GP C i+_=_
 rw[h]
 have:(s.kind==3)=false:=by simpa using hk
 simp only[this,cond_false]
theorem AIx:∀{n m:Nat},n≤m→GP C n≤GP C m:=by
 intro n m h
 induction m with
 |zero=>rw[show n=0 by omega];exact Nat.le_refl _
 |succ m ih =>
  rcases Nat.lt_or_ge n (m+1)with h2|h2
  ·have:=ih AA
   rw[GP]
   omega
  rw[show n=m+1 by omega]
  exact Nat.le_refl _
theorem bm(n:Nat):GP C n≤n:=by
 induction n with
 |zero=>exact Nat.le_refl _
 |succ n ih =>
  rw[GP]
  have:(match nth C n with
  |some s=>bif s.kind==3 then 0 else 1
  |none=>0)≤1:=by
   split
   ·rename_i s _
    cases s.kind==3<;>decide
   decide
  omega
end
structure Rw where
 a:Option Addr
 c:Nat
 C:List Int
def Rw.cells(w:Rw):List Value:=[.slice w.a w.C.length w.c]
def Rw.Ok(S:St)(w:Rw):Prop:=CZ S (.slice w.a w.C.length w.c) w.C
theorem Rw.Ok.move{S T:St}{w:Rw}(h:w.Ok S)(hk:RK S T):w.Ok T:=A0.move hk h
abbrev Rws:=A0 38 1 Rw.cells
theorem MR{S:St}{B n:Nat}{C:List Int}(h:DW S B 3 ((C.map ic).flatten))(hn:n=C.length):CZ S (.slice (some ⟨B,0,none⟩) n n) C:=A0.row (fun _=>rfl) h hn
theorem AN5(p q r t:Int)(s:Sg):CC Tryz.prog KK 220 [EY p q r t,s.v] S (fun v S'=>AL S S'∧(∃av c D,v= .slice av D.length c∧CZ S' (.slice av D.length c) D∧D.length=IM p q r t s)):=by
 refine ce 53 Tryz.func220 fun hl=>?_;refine zg ?_;refine bL hl fun B2 S2 hl=>?_;refine bL hl fun B3 S3 hl=>?_;refine zg ?_
 refine zc hl rfl (AAT p q r t s.value) ?_;rintro v S1 AM rfl hl
 refine zg ?_
 constructor<;>intro BZ
 ·
  refine zg ?_;refine dL hl (ic (Hy p q r t s.value)) Tryz.underlying38 fun B19 S1 AGz hl=>?_;refine zg ?_
  exact AR ((z1 rfl ⟨hl.AD,_,_,[_],rfl,MR AGz rfl,by unfold IM;rw[BZ];rfl⟩))
 refine zg ?_
 constructor<;>intro Cq
 ·
  refine zg ?_;refine dL hl (ic 0) Tryz.underlying38 fun B23 S1 AG2 hl=>?_;refine zg ?_
  exact AR ((z1 rfl ⟨hl.AD,_,_,[_],rfl,MR AG2 rfl,by unfold IM;rw[BZ,Cq];rfl⟩))
 refine AG rfl (CR hl 24 (.bool ((LV p q r t s.value==2)&&(Hy p q r t s.value==0))) ?_ rfl ?_)
 ·
  refine zg ?_
  refine zc hl rfl (Pp p q r t s.value) ?_;rintro v S1 AM rfl hl
  refine zg ?_;refine AZ (d:=30) rfl (fun CJ=>?_) (fun CJ=>?_)
  ·
   refine zg ?_
   exact⟨rfl,bl (by rw[CJ];rfl),sB,hl⟩
  refine zg ?_
  exact⟨rfl,bl (by rw[CJ];rfl),sB,hl⟩
 intro S1 hl
 refine zg ?_
 constructor<;>intro Ef
 ·
  refine zg ?_;refine dL hl (ic 0) Tryz.underlying38 fun B34 S1 AG8 hl=>?_;refine zg ?_
  exact AR ((z1 rfl ⟨hl.AD,_,_,[_],rfl,MR AG8 rfl,by unfold IM;rw[BZ,Cq,Ef];rfl⟩))
 refine zg ?_
 refine zc hl rfl (Pp p q r t s.value) ?_;rintro v S1 AM rfl hl
 refine zg ?_
 constructor<;>intro Dz
 ·
  refine zg ?_;refine dL hl [.int .i64 0,.int .i64 (Hy p q r t s.value)] Tryz.underlying38 fun B42 S1 AHA hl=>?_;refine zg ?_
  exact AR ((z1 rfl ⟨hl.AD,_,_,[_,_],rfl,MR AHA rfl,by unfold IM;rw[BZ,Cq,Ef,Dz];rfl⟩))
 refine zg ?_
 constructor<;>intro FB
 ·
  refine zg ?_;refine dL hl (ic s.value) Tryz.underlying38 fun B48 S1 aT hl=>?_;refine zg ?_
  exact AR ((z1 rfl ⟨hl.AD,_,_,[_],rfl,MR aT rfl,by unfold IM;rw[BZ,Cq,Ef,Dz,FB];rfl⟩))
 refine zg ?_;refine dL hl [.int .i64 (Hy p q r t s.value),.int .i64 s.value] Tryz.underlying38 fun B52 S1 AHD hl=>?_;refine zg ?_
 exact y1 rfl ⟨hl.AD,_,_,[_,_],rfl,MR AHD rfl,by unfold IM;rw[BZ,Cq,Ef,Dz,FB];rfl⟩
def ABk(S':St)(p q r t:Int)(C:List Sg)(v:Value):Prop:=(¬M8 p q r t C∧∃e:Int,e≠0∧v=Aw [.slice none 0 0,.int .i64 e])∨(M8 p q r t C∧∃av G,v=Aw [.slice av G.length G.length,.int .i64 0]∧Rws S' (.slice av G.length G.length) G∧(∀w,w∈G→w.Ok S')∧G.map (fun w=>w.C.length)=FX p q r t C C.length)
abbrev gR(av:Option Addr)(D:List Rw):Gr:=Hc 38 1 Rw.cells (.slice av D.length D.length) D
theorem AFw{Ts:List St}{S0 S1:St}{l:List (Nat×AF)}{av:Option Addr}{D:List Rw}{x:Rw}(h:AE S0 Ts S1 l [⟨.slice av (D.length+1) (D.length+1),38,1,(D.map Rw.cells).flatten++x.cells,D.length+1⟩]):AE S0 Ts S1 l [gR av (D++[x])]:=by
 unfold gR
 rw[Im]
 exact h
theorem oA(p q r t:Int)(a:Option Addr)(cap:Nat)(C:List Sg)(hn:C.length≤1000)(hF:BW S)(hv:CW S (.slice a C.length cap) C):CC Tryz.prog KK 180 [EY p q r t,.slice a C.length cap] S (fun v S'=>AL S S'∧(ABk S' p q r t C v)):=by
 refine ce 40 Tryz.func180 fun hl=>?_;refine zg ?_;refine bL hl fun B2 S2 hl=>?_;refine zg ?_
 refine zc hl rfl (oB p q r t a cap C hn (hl.AD.3 hF) (hv.move (hl.since 0 rfl))) ?_;rintro v S1 AM ⟨e,rfl,he⟩ hl
 refine zg ?_
 constructor<;>intro BZ
 ·
  have e0:e≠0:=by simpa using BZ
  refine zg ?_
  exact(z2 rfl rfl ⟨hl.AD,.inl ⟨fun h=>e0 (he.2 h),e,e0,rfl⟩⟩)
 have BI:=he.1 (by simpa using BZ)
 refine zg ?_
 have hl:=(hl.marks (Us:=[S]) (fun T hT=>by rw[List.mem_singleton.1 hT];repeat (first|exact Al|refine BQ ?_))).D2 (g:=gR none []) (.inl ⟨rfl,rfl,rfl⟩)
 refine AK (L':=[(8,.int .i64 0),(7,.slice none 0 0),(5,.int .i64 0),(4,.slice none 0 0),(2,ptrTo B2 0),(1,.slice a C.length cap)]) sE ?_
 refine A2 rfl (fun m Le S'=>∃(i:Nat) (av:Option Addr) (G:List Rw),i≤C.length∧m=C.length-i∧(∀w,w∈G→w.Ok S')∧G.map (fun w=>w.C.length)=FX p q r t C i∧Af [(8,.int .i64 (i:Int)),(7,.slice av G.length G.length),(5,.int .i64 0),(4,.slice none 0 0),(2,ptrTo B2 0),(1,.slice a C.length cap)] Le∧AE S [S] S' [(B2,.cells [.int .i64 p,.int .i64 q,.int .i64 r,.int .i64 t] 51 false true [])] [gR av G]) ?_ (m:=C.length) ⟨0,none,[],AA,AA,fun x hx=>(List.not_mem_nil hx).elim,rfl,sE,hl⟩
 clear hl;rintro m Le S' ⟨i,av,G,hi,rfl,hG,JV,AH,hl⟩;refine AK AH ?_
 have Wm:G.length=(FX p q r t C i).length:=by rw[←JV,D1]
 have tw:=Ut (p:=p) (q:=q) (r:=r) (t:=t) (C:=C) i
 refine zg ?_
 constructor<;>intro DN
 ·
  have AN:i<C.length:=dT DN
  obtain⟨s,hs⟩:=Ad AN
  obtain⟨b1,o1,BF,ha,_,AQ,Aa⟩:=hv.elem hs
  refine zg ?_
  constructor<;>intro CX
  ·
   have Cn:s.kind=3:=by simpa using CX
   obtain⟨j,s',rfl,hj,ug⟩:∃j s',i=j+1∧nth C j=some s'∧s'.kind≠3:=by
    rcases BI.s i s hs with h|⟨_,j,u,e,hu,HM,_⟩
    ·omega
    exact⟨j,u,e,hu,HM⟩
   have ej:((j+1:Nat):Int)-1=(j:Int):=by omega
   clear ha AQ Aa
   obtain⟨b1,o1,BF,ha,_,AQ,Aa⟩:=hv.elem hj
   have hl:=hl.mark
   refine zg ?_;refine BC (idx:=[0,1,2,3,4,5,6,7]) rfl AB AB ?_;refine zg ?_
   rw[ej]
   refine zg ?_
   refine zp hl rfl (AN5 p q r t s') ?_;rintro v S3 Hi ⟨a2,c2,D,rfl,UF,MC⟩ hl;refine⟨zt,?_⟩
   obtain⟨w,hw⟩:∃w:Rw,w=⟨a2,c2,D⟩:=⟨_,rfl⟩
   have hwc:[Value.slice a2 D.length c2]=w.cells:=by rw[hw];rfl
   have XL:w.Ok S3:=by rw[hw];exact UF
   have jb:w.C.length=IM p q r t s':=by rw[hw];exact MC
   have hl:=hl.mark
   refine zg ?_;refine Ry hl rfl rfl rfl rfl rfl Tryz.underlying116 rfl (c:=w.cells) (by rw[←hwc];kernel_rfl) ?_;intro B37 S1 AG9 hl;refine DZ hl 0 rfl rfl (by simp) rfl rfl rfl rfl rfl rfl rfl Tryz.underlying116 Tryz.underlying116 rfl rfl AB (Cj (n:=1) (cap:=1) (new:=w.cells) AG9 rfl) rfl rfl AB (by show G.length+1≤Ae;unfold Ae;omega) ?_;intro v38 S1 hl
   obtain⟨As,rfl⟩:∃x,v38= .slice x (G.length+1) (G.length+1):=Am.C5 (hl.gr _ Al)
   refine zg ?_
   refine⟨C.length-(j+1+1),AA,j+1+1,As,G++[w],AA,rfl,fun x hx=>?_,?_,⟨rfl,by rw[A8];rfl,rfl,rfl,rfl,rfl,trivial⟩,AFw (hl.marks (Us:=[S]) (fun T hT=>by rw[List.mem_singleton.1 hT];repeat (first|exact Al|refine BQ ?_)))⟩
   ·rcases List.mem_append.1 hx with h|h
    ·exact(hG x h).move (hl.since 1 rfl)
    rw[List.mem_singleton.1 h]
    exact XL.move (hl.since 0 rfl)
   rw[Hm,JV,xG hs Cn hj,←jb]
   rfl
  have Cn:s.kind≠3:=by simpa using CX
  refine zg ?_
  exact⟨C.length-(i+1),AA,i+1,av,G,AA,rfl,hG,by rw[JV,xH hs Cn],sE,hl⟩
 have DH:i=C.length:=dF DN
 subst DH
 refine zg ?_
 exact y2 rfl rfl ⟨hl.AD,.inr ⟨BI,av,G,rfl,Am.ls (f:=Rw.cells) (fun _=>rfl) (hl.gr _ Al),hG,JV⟩⟩
theorem AN6(a:Option Addr)(cap:Nat)(C:List Int)(x:Int)(hn:C.length≤1000)(_:BW S)(hv:CZ S (.slice a C.length cap) C):CC Tryz.prog KK 221 [.slice a C.length cap,.int .i64 x] S (fun v S'=>AL S S'∧(∃B:Bool,v= .bool B)):=by
 refine ce 18 Tryz.func221 fun hl=>?_;refine zg ?_;refine AK (L':=[(5,.int .i64 0),(4,.bool false),(0,.slice a C.length cap),(1,.int .i64 x)]) sE ?_
 refine A2 rfl (fun m Le S'=>∃i:Nat,i≤C.length∧m=C.length-i∧Af [(5,.int .i64 (i:Int)),(4,.bool false),(0,.slice a C.length cap),(1,.int .i64 x)] Le∧AE S [S] S' [] []) ?_ (m:=C.length) ⟨0,AA,AA,sE,hl⟩
 clear hl;rintro m Le S' ⟨i,hi,rfl,AH,hl⟩;refine AK AH ?_
 refine zg ?_
 constructor<;>intro h9
 ·
  have AN:i<C.length:=dT h9
  obtain⟨y,hy⟩:=Ad AN
  obtain⟨b1,o1,BF,ha,_,AQ,Aa⟩:=hv.elem hy
  refine zg ?_
  constructor<;>intro Dl
  ·
   refine zg ?_
   exact AR (Ai (Bg (AR ((z1 rfl ⟨hl.AD,_,rfl⟩)))))
  refine zg ?_
  exact⟨C.length-(i+1),AA,i+1,AA,rfl,sE,hl⟩
 refine zg ?_
 exact y1 rfl ⟨hl.AD,_,rfl⟩
end Go.Proofs.YtmfphenhpkgidaaGreatDoor
namespace Go.Proofs.YtmfphenhpkgidaaGreatDoor
open Go.Cm Go
set_option maxRecDepth 100000
variable{S:St}
structure OX(n:Nat)(x:Se):Prop where
 f:0≤x.f
 t:x.f≤x.t∧x.t≤n
 l: -1≤x.l∧x.l<n
 r: -1≤x.r∧x.r<n
theorem AAW(a b:Ti):CC Tryz.prog KK 278 [a.v,b.v] S (fun v S'=>AL S S'∧(GC v)):=by
 refine ce 19 Tryz.func278 fun hl=>?_;refine zg ?_;refine bL hl fun B2 S2 hl=>?_;refine bL hl fun B3 S3 hl=>?_;refine aL hl [.int .i64 0,.int .i64 0] fun B4 S4 hl=>?_;refine zg ?_
 refine zc hl rfl (c5 a b) ?_;rintro v S1 AM ⟨t,e,rfl,he⟩ hl
 refine zg ?_;refine aL hl [.int .i64 0,.int .i64 0] fun B6 S6 hl=>?_;refine sL hl 0 t.cells fun S1 hl=>?_;refine zg ?_
 constructor<;>intro Bo
 ·
  refine zg ?_;refine rr rfl (A9 rfl rfl (v:=AX [.int .i64 0,.int .i64 0]) (by rfl)) ?_;refine sL hl 1 [.int .i64 0,.int .i64 0] fun S1 hl=>?_;refine zg ?_
  exact Ai (BA (Bm rfl (lN (z:=2) (hl.get 1 rfl) rfl) (BD rfl rfl)) ⟨hl.AD,⟨0,0⟩,_,rfl,fun h=>by cases h⟩)
 refine zg ?_;refine sL hl 1 t.cells fun S1 hl=>?_;refine zg ?_
 exact BA (Bm rfl (lN (z:=2) (hl.get 1 rfl) rfl) (BD rfl rfl)) ⟨hl.AD,t,e,rfl,he⟩
theorem AN9(u:Ti)(a:Option Addr)(cap:Nat)(C:List It)(x:Se)(hn:C.length≤1000)(hF:BW S)(hx:OX C.length x)(hv:Gu S (.slice a C.length cap) C):CC Tryz.prog KK 231 [u.v,.slice a C.length cap,AX x.cells] S (fun v S'=>AL S S'∧(GC v)):=by
 refine ce 83 Tryz.func231 fun hl=>?_
 obtain⟨hf,⟨UO,vQ⟩,⟨LA,CY⟩,RL,UW⟩:=hx
 refine zg ?_;refine bL hl fun B3 S3 hl=>?_;refine bL hl fun B5 S5 hl=>?_;refine aL hl [.int .i64 0,.int .i64 0] fun B6 S6 hl=>?_;refine zg ?_;refine rr rfl (A9 rfl rfl (v:=AX [.int .i64 0,.int .i64 1]) (by rfl)) ?_;refine aL hl [.int .i64 0,.int .i64 0] fun B8 S8 hl=>?_;refine sL hl 0 ((Ti.mk 0 1).cells) fun S1 hl=>?_;refine zA ?_;refine AG rfl ?_;refine zS ?_;refine Az rfl ?_;refine AK (L':=[(9,.int .i64 x.f),(8,ptrTo B8 0),(7,.int .i64 0),(6,ptrTo B6 0),(5,ptrTo B5 0),(3,ptrTo B3 0),(1,.slice a C.length cap)]) sE ?_
 refine A2 rfl (fun m Le S'=>∃(i:Int) (t:Ti),0≤i∧i≤x.t∧m=(x.t-i).toNat∧Af [(9,.int .i64 i),(8,ptrTo B8 0),(7,.int .i64 0),(6,ptrTo B6 0),(5,ptrTo B5 0),(3,ptrTo B3 0),(1,.slice a C.length cap)] Le∧AE S [S] S' [(B8,.cells t.cells 103 false true []),(B6,.cells [.int .i64 0,.int .i64 0] 103 false true []),(B5,.cells x.cells 328 false true []),(B3,.cells u.cells 103 false true [])] []) ?_ (m:=(x.t-x.f).toNat) ⟨x.f,_,hf,UO,rfl,sE,hl⟩
 clear hl;rintro m Le S' ⟨i,t,Iv,hi,rfl,AH,hl⟩;refine AK AH ?_
 refine zg ?_
 constructor<;>intro Dy
 ·
  have AN:i<x.t:=dT Dy
  obtain⟨k,rfl,K'⟩:=I1 Iv (show i<C.length by omega)
  obtain⟨y,hy⟩:=Ad K'
  obtain⟨b1,o1,BF,ha,_,AQ,Aa⟩:=hv.elem hy
  have hl:=hl.mark
  refine zg ?_;refine BC (idx:=[0,1,2,3,4,5,10,6,7,8,9,11,12]) rfl AB AB ?_;refine zg ?_;refine KZ hF hl rfl rfl rfl rfl rfl (z:=[.int .i64 0,.int .i64 0]) AB ?_;intro Hv GB hl
  refine zp hl rfl (OI t y.du) ?_;rintro v S1 AM ⟨t2,e,rfl,he⟩ hl;refine⟨zt,?_⟩
  refine zg ?_
  refine pL hl 0 t2.cells (h:=fun S1 hl=>⟨zt,?_⟩)
  refine zg ?_
  constructor<;>intro Eg
  ·
   refine zg ?_;refine rr rfl (A9 rfl rfl (v:=AX [.int .i64 0,.int .i64 0]) (by rfl)) ?_;refine zg ?_;refine sL hl 2 [.int .i64 0,.int .i64 0] fun S1 hl=>?_;refine zg ?_
   exact Ai (AR (Ai (Bg (AR (Ai (BA (Bm rfl (lN (z:=2) (hl.get 2 rfl) rfl) (BD rfl rfl)) ⟨hl.AD,⟨0,0⟩,_,rfl,fun h=>by rw[h]at Eg;cases Eg⟩))))))
  refine zg ?_;refine sL hl 1 t2.cells fun S1 hl=>?_;refine zg ?_
  exact⟨(x.t-((k:Int)+1)).toNat,AA,(k:Int)+1,t2,AA,AA,rfl,sE,hl.tail.marks (Us:=[S]) (fun T hT=>BQ hT)⟩
 clear hi Iv AH
 refine HB rfl ?_;refine AG rfl (ABP (fun Le S'=>∃t:Ti,Af [(8,ptrTo B8 0),(7,.int .i64 0),(6,ptrTo B6 0),(5,ptrTo B5 0),(3,ptrTo B3 0),(1,.slice a C.length cap)] Le∧AE S [S] S' [(B8,.cells t.cells 103 false true []),(B6,.cells [.int .i64 0,.int .i64 0] 103 false true []),(B5,.cells x.cells 328 false true []),(B3,.cells u.cells 103 false true [])] []) ?_ ?_)
 ·
  refine zg ?_
  constructor<;>intro Oy
  ·
   have IG:0≤x.l:=dT Oy
   obtain⟨k,hk,K'⟩:=I1 IG (show x.l<C.length by omega)
   obtain⟨y,hy⟩:=Ad K'
   obtain⟨b1,o1,BF,ha,_,AQ,Aa⟩:=hv.elem hy
   have Cn:x.l.toNat=k:=by omega
   rw[←Cn]at Aa
   have hl:=hl.mark
   refine zg ?_;refine BC (idx:=[0,1,2,3,4,5,6,11,7,8,9,10,12,13]) rfl AB AB ?_;refine zg ?_;refine KZ hF hl rfl rfl rfl rfl rfl (z:=[.int .i64 0,.int .i64 0]) AB ?_;intro eG Ko hl
   refine zp hl rfl (AAW t y.af) ?_;rintro v S1 AM ⟨t2,e,rfl,he⟩ hl;refine⟨zt,?_⟩
   refine zg ?_
   refine pL hl 0 t2.cells (h:=fun S1 hl=>⟨zt,?_⟩)
   refine zg ?_
   constructor<;>intro E3
   ·
    refine zg ?_;refine rr rfl (A9 rfl rfl (v:=AX [.int .i64 0,.int .i64 0]) (by rfl)) ?_;refine zg ?_;refine sL hl 2 [.int .i64 0,.int .i64 0] fun S1 hl=>?_;refine zg ?_
    exact .inr ⟨nofun,Ai (BA (Bm rfl (lN (z:=2) (hl.get 2 rfl) rfl) (BD rfl rfl)) ⟨hl.AD,⟨0,0⟩,_,rfl,fun h=>by rw[h]at E3;cases E3⟩)⟩
   refine zg ?_;refine sL hl 1 t2.cells fun S1 hl=>?_;refine zg ?_
   exact .inl ⟨rfl,t2,sE,hl.tail.marks (Us:=[S]) (fun T hT=>BQ hT)⟩
  refine zg ?_
  exact .inl ⟨rfl,t,sE,hl⟩
 clear hl t;rintro Le S1 ⟨t,AH,hl⟩;refine AK AH ?_;clear AH
 refine AG rfl (ABP (fun Le S'=>∃t:Ti,Af [(8,ptrTo B8 0),(7,.int .i64 0),(6,ptrTo B6 0),(5,ptrTo B5 0),(3,ptrTo B3 0),(1,.slice a C.length cap)] Le∧AE S [S] S' [(B8,.cells t.cells 103 false true []),(B6,.cells [.int .i64 0,.int .i64 0] 103 false true []),(B5,.cells x.cells 328 false true []),(B3,.cells u.cells 103 false true [])] []) ?_ ?_)
 ·
  refine zg ?_
  constructor<;>intro E4
  ·
   have IG:0≤x.r:=dT E4
   obtain⟨k,hk,K'⟩:=I1 IG (show x.r<C.length by omega)
   obtain⟨y,hy⟩:=Ad K'
   obtain⟨b1,o1,BF,ha,_,AQ,Aa⟩:=hv.elem hy
   have Cn:x.r.toNat=k:=by omega
   rw[←Cn]at Aa
   have hl:=hl.mark
   refine zg ?_;refine BC (idx:=[0,1,2,3,4,5,6,11,7,8,9,10,12,13]) rfl AB AB ?_;refine zg ?_;refine KZ hF hl rfl rfl rfl rfl rfl (z:=[.int .i64 0,.int .i64 0]) AB ?_;intro eG Ko hl
   refine zp hl rfl (AAW t y.be) ?_;rintro v S1 AM ⟨t2,e,rfl,he⟩ hl;refine⟨zt,?_⟩
   refine zg ?_
   refine pL hl 0 t2.cells (h:=fun S1 hl=>⟨zt,?_⟩)
   refine zg ?_
   constructor<;>intro Qr
   ·
    refine zg ?_;refine rr rfl (A9 rfl rfl (v:=AX [.int .i64 0,.int .i64 0]) (by rfl)) ?_;refine zg ?_;refine sL hl 2 [.int .i64 0,.int .i64 0] fun S1 hl=>?_;refine zg ?_
    exact .inr ⟨nofun,Ai (BA (Bm rfl (lN (z:=2) (hl.get 2 rfl) rfl) (BD rfl rfl)) ⟨hl.AD,⟨0,0⟩,_,rfl,fun h=>by rw[h]at Qr;cases Qr⟩)⟩
   refine zg ?_;refine sL hl 1 t2.cells fun S1 hl=>?_;refine zg ?_
   exact .inl ⟨rfl,t2,sE,hl.tail.marks (Us:=[S]) (fun T hT=>BQ hT)⟩
  refine zg ?_
  exact .inl ⟨rfl,t,sE,hl⟩
 clear hl t;rintro Le S1 ⟨t,AH,hl⟩;refine AK AH ?_;clear AH
 refine zg ?_
 refine zc hl rfl (AOE t u) ?_;rintro v S1 AM ⟨t2,e,rfl,he⟩ hl
 refine zg ?_;refine sL hl 1 t2.cells fun S1 hl=>?_;refine zg ?_
 exact BA (Bm rfl (lN (z:=2) (hl.get 1 rfl) rfl) (BD rfl rfl)) ⟨hl.AD,t2,e,rfl,he⟩
end Go.Proofs.YtmfphenhpkgidaaGreatDoor
namespace Go.Proofs.YtmfphenhpkgidaaGreatDoor
open Go.Cm Go
set_option maxRecDepth 100000
variable{S:St}
theorem AOH(a:Option Addr)(cap:Nat)(C:List It)(x:Se)(w:Ti)(hn:C.length≤1000)(_:BW S)(hx:OX C.length x)(hv:Gu S (.slice a C.length cap) C):CC Tryz.prog KK 318 [.slice a C.length cap,AX x.cells,w.v] S (fun v S'=>AL S S'∧(∃B:Bool,v= .bool B)):=by
 refine ce 31 Tryz.func318 fun hl=>?_
 obtain⟨hf,⟨UO,vQ⟩,_⟩:=hx
 refine zg ?_;refine bL hl fun B4 S4 hl=>?_;refine bL hl fun B5 S5 hl=>?_;refine zg ?_;refine rr rfl (A9 rfl rfl (v:=AX [.int .i64 0,.int .i64 1]) (by rfl)) ?_;refine aL hl [.int .i64 0,.int .i64 0] fun B7 S7 hl=>?_;refine sL hl 0 ((Ti.mk 0 1).cells) fun S1 hl=>?_;refine zg ?_;refine AK (L':=[(8,.int .i64 x.f),(7,ptrTo B7 0),(6,.bool false),(5,ptrTo B5 0),(4,ptrTo B4 0),(0,.slice a C.length cap)]) sE ?_
 refine A2 rfl (fun m Le S'=>∃(i:Int) (t:Ti),0≤i∧i≤x.t∧m=(x.t-i).toNat∧Af [(8,.int .i64 i),(7,ptrTo B7 0),(6,.bool false),(5,ptrTo B5 0),(4,ptrTo B4 0),(0,.slice a C.length cap)] Le∧AE S [S] S' [(B7,.cells t.cells 103 false true []),(B5,.cells w.cells 103 false true []),(B4,.cells x.cells 328 false true [])] []) ?_ (m:=(x.t-x.f).toNat) ⟨x.f,_,hf,UO,rfl,sE,hl⟩
 clear hl;rintro m Le S' ⟨i,t,Iv,hi,rfl,AH,hl⟩;refine AK AH ?_
 refine zg ?_
 constructor<;>intro Bo
 ·
  have AN:i<x.t:=dT Bo
  obtain⟨k,rfl,K'⟩:=I1 Iv (show i<C.length by omega)
  obtain⟨y,hy⟩:=Ad K'
  obtain⟨b1,o1,BF,ha,_,AQ,Aa⟩:=hv.elem hy
  refine zg ?_;refine BC (idx:=[0,1,2,3,4,5,6,7,8,9,10]) rfl AB AB ?_;refine zg ?_
  refine zp hl rfl (OI t y.du) ?_;rintro v S1 AM ⟨t2,e,rfl,he⟩ hl;refine⟨zt,?_⟩
  refine zg ?_
  refine pL hl 0 t2.cells (h:=fun S1 hl=>⟨zt,?_⟩)
  refine zg ?_
  constructor<;>intro CJ
  ·
   refine zg ?_
   exact AR (Ai (Bg (AR ((z1 rfl ⟨hl.AD,_,rfl⟩)))))
  refine zg ?_
  exact⟨(x.t-((k:Int)+1)).toNat,AA,(k:Int)+1,t2,AA,AA,rfl,sE,hl⟩
 refine zg ?_
 exact y1 rfl ⟨hl.AD,_,rfl⟩
theorem AOI(a:Option Addr)(cap:Nat)(C:List It)(x:Se)(w:Ti)(hn:C.length≤1000)(_:BW S)(hx:OX C.length x)(hv:Gu S (.slice a C.length cap) C):CC Tryz.prog KK 319 [.slice a C.length cap,AX x.cells,w.v] S (fun v S'=>AL S S'∧(∃B:Bool,v= .bool B)):=by
 refine ce 64 Tryz.func319 fun hl=>?_
 obtain⟨hf,⟨UO,vQ⟩,_⟩:=hx
 refine zg ?_;refine bL hl fun B4 S4 hl=>?_;refine bL hl fun B5 S5 hl=>?_;refine zg ?_;refine rr rfl (A9 rfl rfl (v:=AX [.int .i64 0,.int .i64 1]) (by rfl)) ?_;refine aL hl [.int .i64 0,.int .i64 0] fun B7 S7 hl=>?_;refine sL hl 0 ((Ti.mk 0 1).cells) fun S1 hl=>?_;refine zg ?_;refine AK (L':=[(8,.int .i64 x.f),(7,ptrTo B7 0),(6,.bool false),(5,ptrTo B5 0),(4,ptrTo B4 0),(0,.slice a C.length cap)]) sE ?_
 refine A2 rfl (fun m Le S'=>∃(i:Int) (t:Ti),0≤i∧i≤x.t∧m=(x.t-i).toNat∧Af [(8,.int .i64 i),(7,ptrTo B7 0),(6,.bool false),(5,ptrTo B5 0),(4,ptrTo B4 0),(0,.slice a C.length cap)] Le∧AE S [S] S' [(B7,.cells t.cells 103 false true []),(B5,.cells w.cells 103 false true []),(B4,.cells x.cells 328 false true [])] []) ?_ (m:=(x.t-x.f).toNat) ⟨x.f,_,hf,UO,rfl,sE,hl⟩
 clear hl;rintro m Le S' ⟨i,t,Iv,hi,rfl,AH,hl⟩;refine AK AH ?_
 refine zg ?_
 constructor<;>intro DN
 ·
  have AN:i<x.t:=dT DN
  obtain⟨k,rfl,K'⟩:=I1 Iv (show i<C.length by omega)
  obtain⟨y,hy⟩:=Ad K'
  obtain⟨b1,o1,BF,ha,_,AQ,Aa⟩:=hv.elem hy
  refine zg ?_;refine BC (idx:=[0,1,2,3,4,5,6,7,8,9,10]) rfl AB AB ?_;refine zg ?_
  refine zp hl rfl (OI t y.du) ?_;rintro v S1 AM ⟨t2,e,rfl,he⟩ hl;refine⟨zt,?_⟩
  refine zg ?_
  refine pL hl 0 t2.cells (h:=fun S1 hl=>⟨zt,?_⟩)
  refine zg ?_
  exact⟨(x.t-((k:Int)+1)).toNat,AA,(k:Int)+1,t2,AA,AA,rfl,sE,hl⟩
 clear hi Iv AH
 refine zg ?_;refine rr rfl (A9 rfl rfl (v:=AX [.int .i64 0,.int .i64 1]) (by rfl)) ?_;refine aL hl [.int .i64 0,.int .i64 0] fun B9 S9 hl=>?_;refine sL hl 0 ((Ti.mk 0 1).cells) fun S1 hl=>?_;refine zg ?_;refine AK (L':=[(10,.int .i64 x.f),(9,ptrTo B9 0),(7,ptrTo B7 0),(6,.bool false),(5,ptrTo B5 0),(4,ptrTo B4 0),(0,.slice a C.length cap)]) sE ?_
 refine A2 rfl (fun m Le S'=>∃(i:Int) (t2:Ti),0≤i∧i≤x.t∧m=(x.t-i).toNat∧Af [(10,.int .i64 i),(9,ptrTo B9 0),(7,ptrTo B7 0),(6,.bool false),(5,ptrTo B5 0),(4,ptrTo B4 0),(0,.slice a C.length cap)] Le∧AE S [S] S' [(B9,.cells t2.cells 103 false true []),(B7,.cells t.cells 103 false true []),(B5,.cells w.cells 103 false true []),(B4,.cells x.cells 328 false true [])] []) ?_ (m:=(x.t-x.f).toNat) ⟨x.f,_,hf,UO,rfl,sE,hl⟩
 clear hl;rintro m Le S' ⟨i,t2,Iv,hi,rfl,AH,hl⟩;refine AK AH ?_
 refine zg ?_
 constructor<;>intro Fh
 ·
  have AN:i<x.t:=dT Fh
  obtain⟨k,rfl,K'⟩:=I1 Iv (show i<C.length by omega)
  obtain⟨y,hy⟩:=Ad K'
  obtain⟨b1,o1,BF,ha,_,AQ,Aa⟩:=hv.elem hy
  refine zg ?_
  refine zc hl rfl (c5 t t2) ?_;rintro v S1 AM ⟨t3,e,rfl,he⟩ hl
  refine zg ?_;refine aL hl [.int .i64 0,.int .i64 0] fun Vt Km hl=>?_;refine sL hl 0 t3.cells fun S1 hl=>?_;refine zA ?_;refine AG rfl ?_;refine AG rfl (HW hl 53 Value.bool ?_ rfl ?_)
  ·
   refine zg ?_;refine AZ (d:=49) rfl (fun H6=>?_) (fun H6=>?_)
   ·
    refine zg ?_
    exact⟨rfl,⟨_,bl rfl⟩,sB,hl⟩
   refine zg ?_
   exact⟨rfl,⟨_,bl rfl⟩,sB,hl⟩
  intro q53 S1 hl
  refine zg ?_
  constructor<;>intro FC
  ·
   refine zg ?_
   exact Ai (AR (Ai (Bg (AR ((z1 rfl ⟨hl.AD,_,rfl⟩))))))
  refine zg ?_;refine BC (idx:=[0,1,2,3,4,5,6,7,8,9,10]) rfl AB AB ?_;refine zg ?_
  refine zp hl rfl (OI t2 y.du) ?_;rintro v S1 AM ⟨t4,e2,rfl,MI⟩ hl;refine⟨zt,?_⟩
  refine zg ?_
  refine pL hl 1 t4.cells (h:=fun S1 hl=>⟨zt,?_⟩)
  refine zg ?_
  exact⟨(x.t-((k:Int)+1)).toNat,AA,(k:Int)+1,t4,AA,AA,rfl,sE,hl.tail⟩
 refine zg ?_
 exact y1 rfl ⟨hl.AD,_,rfl⟩
structure At(S:St)(b:Nat)(x:AF):Prop where
 at_:∀{T:St},AL S T→T.get b=some x
structure D8 where
 u:Ti
 k:Int
 al:Option Addr
 cl:Nat
 L:List It
 an:Option Addr
 N:List It
 ag:Option Addr
 cg:Nat
 G:List Se
 am:Option Addr
 M:List Int
def D8.cells(x:D8):List Value:=[.int .i64 x.u.n,.int .i64 x.u.d,.int .i64 x.k,.slice x.al x.L.length x.cl,.slice x.an x.N.length x.N.length,.slice x.ag x.G.length x.cg,.slice x.am x.M.length x.M.length]
abbrev D8.Bn(x:D8):AF:= .cells x.cells 334 false true []
structure D8.Fit(x:D8):Prop where
 k: -50≤x.k∧x.k≤50
 n:x.N.length=x.L.length
 l:x.L.length≤1000
 g:x.G.length≤2001
 s:∀s,s∈x.G→OX x.L.length s
structure D8.Ok(S:St)(x:D8):Prop where
 l:Gu S (.slice x.al x.L.length x.cl) x.L
 n:Gu S (.slice x.an x.N.length x.N.length) x.N
 g:eX S (.slice x.ag x.G.length x.cg) x.G
 m:CZ S (.slice x.am x.M.length x.M.length) x.M
theorem D8.Ok.move{S T:St}{x:D8}(h:x.Ok S)(hk:RK S T):x.Ok T:=⟨h.l.move hk,h.n.move hk,h.g.move hk,h.m.move hk⟩
theorem AAZ(B:Nat)(x:D8)(i:Int)(hi:0≤i∧i<x.L.length)(_:BW S)(hd:At S B x.Bn)(hx:x.Fit)(hk:x.Ok S):CC Tryz.prog KK 317 [ptrTo B 0,.int .i64 i] S (fun v S'=>AL S S'∧(∃B:Bool,v= .bool B)):=by
 refine ce 25 Tryz.func317 fun hl=>?_
 obtain⟨j,rfl,hj⟩:=I1 hi.1 hi.2
 have RC:j<x.N.length:=by have:=hx.n;omega
 obtain⟨y,hy⟩:=Ad RC
 obtain⟨b1,o1,BF,ha,_,AQ,Aa⟩:=hk.n.elem hy
 refine zg ?_;refine BC (idx:=[0,1,2,3,4,5,6,7,8,9,10,11,12,13,14,15,16,17]) rfl AB AB ?_;refine zg ?_
 refine zp hl rfl (AOJ y.du x.u) ?_;rintro v S1 AM ⟨c,e,rfl⟩ hl;refine⟨zt,?_⟩
 refine zg ?_
 exact y1 rfl ⟨hl.AD,_,rfl⟩
end Go.Proofs.YtmfphenhpkgidaaGreatDoor
namespace Go.Proofs.YtmfphenhpkgidaaGreatDoor
open Go.Cm Go
set_option maxRecDepth 100000
variable{S:St}
set_option maxHeartbeats 4000000 in
theorem oE(B:Nat)(x:D8)(hm:x.M.length<x.G.length)(hF:BW S)(hd:At S B x.Bn)(hx:x.Fit)(hk:x.Ok S):CC Tryz.prog KK 281 [ptrTo B 0,.int .i64 (x.M.length:Int)] S (fun v S'=>AL S S'∧(∃B:Bool,v= .bool B∧(B=true→∀s,nth x.G x.M.length=some s→0≤s.l))):=by
 refine ce 93 Tryz.func281 fun hl=>?_
 obtain⟨s,hs⟩:=Ad hm
 have Fz:=hx.s s (BV hs)
 have aN:=hx.l
 have Ja:=hx.g
 obtain⟨b1,o1,BF,ha,_,AQ,Aa⟩:=hk.g.elem hs
 refine zg ?_;refine aL hl [.int .i64 0,.int .i64 0,.int .i64 0,.int .i64 0,.bool false,.int .i64 0,.int .i64 0] fun B5 S5 hl=>?_;refine sL hl 0 s.cells fun S1 hl=>?_
 clear ha AQ Aa
 refine zA ?_;refine AG rfl ?_;refine AG rfl (JF 24 (fun v S'=>∃B:Bool,v= .bool B∧(B=false→0≤s.l)∧AE S [S] S' [(B5,.cells s.cells 328 false true [])] []) ?_ ?_)
 ·
  refine zg ?_;refine AZ (d:=18) rfl (fun Ct=>?_) (fun Ct=>?_)
  ·
   refine zg ?_
   exact⟨rfl,_,bl rfl,sB,true,rfl,nofun,hl⟩
  have h0:0≤s.l:=dF Ct
  refine zg ?_
  refine zc hl rfl (AAZ B x s.l ⟨h0,Fz.l.2⟩ (hl.AD.3 hF) ⟨fun g=>hd.at_ (hl.AD.trans g)⟩ hx (hk.move (hl.since 0 rfl))) ?_;rintro v S1 AM ⟨C,rfl⟩ hl
  refine rr rfl (BY rfl rfl rfl) ?_;refine zg ?_
  exact⟨rfl,_,bl rfl,sB,_,rfl,fun _=>h0,hl⟩
 rintro v S1 ⟨C,rfl,hB,hl⟩
 refine zg ?_
 constructor<;>intro Ef
 ·
  refine zg ?_
  exact(z1 rfl ⟨hl.AD,false,rfl,nofun⟩)
 have h0:=hB Ef
 obtain⟨j,hj,RB⟩:=I1 h0 Fz.l.2
 have RA:s.l.toNat=j:=by omega
 obtain⟨y,hy⟩:=Ad RB
 obtain⟨b2,o2,EH,ha,_,AQ,Aa⟩:=hk.l.elem hy
 rw[←RA]at Aa
 refine Ar rfl ?_;refine AG rfl ?_;refine AG rfl (HW hl 64 Value.bool ?_ rfl ?_)
 ·
  refine BC (idx:=[0,1,2,3,4,5,6,7,8,9,10,11,12,13,14,15,16,17,18,19,20,21,22,23,24,25,26,27,28,29,30,31,32,33,34,35,36,37,38,39]) rfl AB AB ?_;refine zg ?_;refine Ep (d:=27) rfl (fun CX=>?_) (fun CX=>?_)
  ·
   obtain⟨i,hi⟩:∃i,x.M.length=i+1:=⟨x.M.length-1,dT CX⟩
   have DH:i<x.M.length:=by omega
   obtain⟨z,hz⟩:=Ad DH
   have ei:((x.M.length:Int)-1).toNat=i:=by omega
   obtain⟨b3,o3,H3,Is,_,Ix,IE⟩:=hk.m.elem hz
   rw[←ei]at IE
   refine zg ?_;refine Ep (d:=37) rfl (fun HG=>?_) (fun HG=>?_)
   ·
    refine zg ?_
    exact⟨rfl,⟨_,bl rfl⟩,sB,hl⟩
   refine zg ?_;refine Ep (d:=49) rfl (fun H6=>?_) (fun H6=>?_)
   ·
    refine zg ?_
    exact⟨rfl,⟨_,bl rfl⟩,sB,hl⟩
   refine zg ?_
   exact⟨rfl,⟨_,bl rfl⟩,sB,hl⟩
  refine zg ?_
  exact⟨rfl,⟨_,bl rfl⟩,sB,hl⟩
 intro q64 S1 hl
 refine zg ?_
 constructor<;>intro EV
 ·
  refine zg ?_
  exact(z1 rfl ⟨hl.AD,false,rfl,nofun⟩)
 have hl:=hl.mark
 refine zg ?_;refine BC (idx:=[0,1,2,3,4,5,6,7,8,9,10,11,12,17,13,14,15,16,18,19]) rfl AB AB ?_;refine zg ?_;refine KZ hF hl rfl rfl rfl rfl rfl (z:=[.int .i64 0,.int .i64 0]) AB ?_;intro B6 S6 hl
 refine zp hl rfl (OI y.af x.u) ?_;rintro v S1 AM ⟨t2,e,rfl,he⟩ hl;refine⟨zt,?_⟩
 refine zg ?_
 refine pL hl 0 t2.cells (h:=fun S1 hl=>⟨zt,?_⟩)
 refine zA ?_;refine AG rfl (Ex (fun Le S'=>∃b:Bool,Af [(4,.bool b)] Le∧AL S S') ?_ ?_)
 ·
  refine BC (idx:=[0,1,2,3,4,5,6,7,8,9,10,11]) rfl AB AB ?_;refine zg ?_;refine Ep (d:=84) rfl (fun Nc=>?_) (fun Nc=>?_)
  ·
   refine zg ?_
   refine zp hl rfl (AOH x.al x.cl x.L s t2 hx.l (hl.AD.3 hF) Fz (hk.l.move (hl.since 1 rfl))) ?_;rintro v S1 AM ⟨D,rfl⟩ hl;refine⟨zt,?_⟩
   refine zg ?_
   exact⟨rfl,_,⟨bl rfl,trivial⟩,hl.AD⟩
  refine zg ?_
  exact⟨rfl,_,⟨bl rfl,trivial⟩,hl.AD⟩
 rintro Le S1 ⟨b,AH,RF⟩;refine AK AH ?_
 refine zg ?_
 exact y1 rfl ⟨RF,_,rfl,fun _ u hu=>by rw[hs]at hu;cases hu;exact h0⟩
set_option maxHeartbeats 4000000 in
theorem AAX(B:Nat)(x:D8)(hm:x.M.length<x.G.length)(hF:BW S)(hd:At S B x.Bn)(hx:x.Fit)(hk:x.Ok S):CC Tryz.prog KK 282 [ptrTo B 0,.int .i64 (x.M.length:Int)] S (fun v S'=>AL S S'∧(∃B:Bool,v= .bool B∧(B=true→∀s,nth x.G x.M.length=some s→0≤s.r))):=by
 refine ce 108 Tryz.func282 fun hl=>?_
 obtain⟨s,hs⟩:=Ad hm
 have Fz:=hx.s s (BV hs)
 have aN:=hx.l
 have Ja:=hx.g
 have hxk:=hx.k
 obtain⟨b1,o1,BF,ha,_,AQ,Aa⟩:=hk.g.elem hs
 refine zg ?_;refine aL hl [.int .i64 0,.int .i64 0,.int .i64 0,.int .i64 0,.bool false,.int .i64 0,.int .i64 0] fun B5 S5 hl=>?_;refine sL hl 0 s.cells fun S1 hl=>?_
 clear ha AQ Aa
 refine zA ?_;refine AG rfl ?_;refine AG rfl (JF 25 (fun v S'=>∃B:Bool,v= .bool B∧(B=false→0≤s.r)∧AE S [S] S' [(B5,.cells s.cells 328 false true [])] []) ?_ ?_)
 ·
  refine zg ?_;refine AZ (d:=19) rfl (fun Ct=>?_) (fun Ct=>?_)
  ·
   refine zg ?_
   exact⟨rfl,_,bl rfl,sB,true,rfl,nofun,hl⟩
  have h0:0≤s.r:=dF Ct
  refine zg ?_
  refine zc hl rfl (AAZ B x s.r ⟨h0,Fz.r.2⟩ (hl.AD.3 hF) ⟨fun g=>hd.at_ (hl.AD.trans g)⟩ hx (hk.move (hl.since 0 rfl))) ?_;rintro v S1 AM ⟨C,rfl⟩ hl
  refine rr rfl (BY rfl rfl rfl) ?_;refine zg ?_
  exact⟨rfl,_,bl rfl,sB,_,rfl,fun _=>h0,hl⟩
 rintro v S1 ⟨C,rfl,hB,hl⟩
 refine zg ?_
 constructor<;>intro Ef
 ·
  refine zg ?_
  exact(z1 rfl ⟨hl.AD,false,rfl,nofun⟩)
 have h0:=hB Ef
 obtain⟨j,hj,RB⟩:=I1 h0 Fz.r.2
 have RA:s.r.toNat=j:=by omega
 obtain⟨y,hy⟩:=Ad RB
 obtain⟨b2,o2,EH,ha,_,AQ,Aa⟩:=hk.l.elem hy
 rw[←RA]at Aa
 refine zg ?_;refine BC (idx:=[0,1,2,3,4,5,6,7,8,9]) rfl AB AB ?_;refine zg ?_;refine KZ hF hl rfl rfl rfl rfl rfl (z:=[.int .i64 0,.int .i64 0,.bool false,.bool false,.bool false,.int .i64 0,.int .i64 0,.int .i64 0,.int .i64 0,.int .i64 0,.int .i64 0,.int .i64 0]) AB ?_;intro B6 S6 hl
 refine pL hl 0 y.cells (h:=fun S1 hl=>⟨zt,?_⟩)
 refine zA ?_;refine AG rfl ?_;refine AG rfl (HW hl 86 Value.bool ?_ rfl ?_)
 ·
  refine BC (idx:=[0,1,2,3,4,5,6,7,8,9,10,11,12,13,14,15,16,17,18,19,20,21,22,23,24,25,26,27,28,29,30,31,32,33,34,35,36,37,38,39,40,41,42,43,44,45,46,47,48,49,50,51,52]) rfl AB AB ?_;refine zg ?_;refine Ep (d:=41) rfl (fun FT=>?_) (fun FT=>?_)
  ·
   refine zg ?_;refine Ep (d:=46) rfl (fun JR=>?_) (fun JR=>?_)
   ·
    refine zg ?_;refine Ep (d:=57) rfl (fun Eh=>?_) (fun Eh=>?_)
    ·
     have Eh:s.r+1<x.L.length:=dT Eh
     obtain⟨y2,hy2⟩:=Ad (l:=x.L) (i:=j+1) AA
     have ej:(s.r+1).toNat=j+1:=by omega
     clear ha AQ Aa
     obtain⟨b4,o4,sJ,ha,_,AQ,Aa⟩:=hk.l.elem hy2
     rw[←ej]at Aa
     refine zg ?_;refine pr rfl (BY rfl rfl rfl) ?_;refine zg ?_;refine Ep (d:=70) rfl (fun Ge=>?_) (fun Ge=>?_)
     ·
      refine zg ?_
      exact⟨rfl,⟨_,bl rfl⟩,sB,hl⟩
     refine zg ?_
     exact⟨rfl,⟨_,bl rfl⟩,sB,hl⟩
    refine zg ?_
    exact⟨rfl,⟨_,bl rfl⟩,sB,hl⟩
   refine zg ?_
   exact⟨rfl,⟨_,bl rfl⟩,sB,hl⟩
  refine zg ?_
  exact⟨rfl,⟨_,bl rfl⟩,sB,hl⟩
 intro q86 S1 hl
 refine zg ?_
 constructor<;>intro EV
 ·
  refine zg ?_
  exact(z1 rfl ⟨hl.AD,false,rfl,nofun⟩)
 have hl:=hl.mark
 refine zg ?_;refine BC (idx:=[0,1,2,3,4,5,10,6,7,8,9,11,12]) rfl AB AB ?_;refine zg ?_;refine KZ hF hl rfl rfl rfl rfl rfl (z:=[.int .i64 0,.int .i64 0]) AB ?_;intro B7 S7 hl
 refine zp hl rfl (OI y.be x.u) ?_;rintro v S1 AM ⟨t2,e,rfl,he⟩ hl;refine⟨zt,?_⟩
 refine zg ?_
 refine pL hl 0 t2.cells (h:=fun S1 hl=>⟨zt,?_⟩)
 refine zA ?_;refine AG rfl (Ex (fun Le S'=>∃b:Bool,Af [(4,.bool b)] Le∧AL S S') ?_ ?_)
 ·
  refine BC (idx:=[0,1,2,3,4,5,6,7,8,9,10,11]) rfl AB AB ?_;refine zg ?_;refine Ep (d:=99) rfl (fun Nc=>?_) (fun Nc=>?_)
  ·
   refine zg ?_
   refine zp hl rfl (AOI x.al x.cl x.L s t2 hx.l (hl.AD.3 hF) Fz (hk.l.move (hl.since 1 rfl))) ?_;rintro v S1 AM ⟨D,rfl⟩ hl;refine⟨zt,?_⟩
   refine zg ?_
   exact⟨rfl,_,⟨bl rfl,trivial⟩,hl.AD⟩
  refine zg ?_
  exact⟨rfl,_,⟨bl rfl,trivial⟩,hl.AD⟩
 rintro Le S1 ⟨b,AH,RF⟩;refine AK AH ?_
 refine zg ?_
 exact y1 rfl ⟨RF,_,rfl,fun _ u hu=>by rw[hs]at hu;cases hu;exact h0⟩
end Go.Proofs.YtmfphenhpkgidaaGreatDoor
namespace Go.Proofs.YtmfphenhpkgidaaGreatDoor
open Go.Cm Go
set_option maxRecDepth 100000
variable{S:St}
set_option maxHeartbeats 4000000 in
theorem AOF(B:Nat)(x:D8)(hm:x.M.length<x.G.length)(hF:BW S)(hd:At S B x.Bn)(hx:x.Fit)(hk:x.Ok S):CC Tryz.prog KK 283 [ptrTo B 0,.int .i64 (x.M.length:Int)] S (fun v S'=>AL S S'∧(∃B:Bool,v= .bool B∧(B=true→∀s,nth x.G x.M.length=some s→s.f≠s.t))):=by
 refine ce 82 Tryz.func283 fun hl=>?_
 obtain⟨s,hs⟩:=Ad hm
 have Fz:=hx.s s (BV hs)
 have aN:=hx.l
 have Ja:=hx.g
 have hxk:=hx.k
 obtain⟨hsf,⟨BL,ATN⟩,_,hsr,AHQ⟩:=Fz
 obtain⟨b1,o1,BF,ha,_,AQ,Aa⟩:=hk.g.elem hs
 refine zg ?_;refine aL hl [.int .i64 0,.int .i64 0,.int .i64 0,.int .i64 0,.bool false,.int .i64 0,.int .i64 0] fun B5 S5 hl=>?_;refine sL hl 0 s.cells fun S1 hl=>?_
 clear ha AQ Aa
 refine zA ?_;refine AG rfl ?_;refine AG rfl (JF 40 (fun v S'=>∃B:Bool,v= .bool B∧(B=false→s.f≠s.t)∧AE S [S] S' [(B5,.cells s.cells 328 false true [])] []) ?_ ?_)
 ·
  refine BC (idx:=[0,1,2,3,4,5,6,7,8,9,10,11,12,13,14,15,16,17,18,19,20,21,22,23,24,25,26]) rfl AB AB ?_;refine zg ?_;refine Ep (d:=19) rfl (fun DN=>?_) (fun DN=>?_)
  ·
   refine zg ?_
   exact⟨rfl,_,bl rfl,sB,true,rfl,nofun,hl⟩
  have Ac:s.f≠s.t:=by simpa using DN
  refine zg ?_;refine Ep (d:=23) rfl (fun DG=>?_) (fun DG=>?_)
  ·
   refine zg ?_
   exact⟨rfl,_,bl rfl,sB,true,rfl,nofun,hl⟩
  refine zg ?_;refine Ep (d:=27) rfl (fun CX=>?_) (fun CX=>?_)
  ·
   have h0:0≤s.r:=dT CX
   obtain⟨j,hj,RB⟩:=I1 h0 AHQ
   have RA:s.r.toNat=j:=by omega
   obtain⟨y,hy⟩:=Ad RB
   obtain⟨b2,o2,EH,ha,_,AQ,Aa⟩:=hk.l.elem hy
   rw[←RA]at Aa
   refine zg ?_
   exact⟨rfl,_,bl rfl,sB,_,rfl,fun _=>Ac,hl⟩
  refine zg ?_
  exact⟨rfl,_,bl rfl,sB,_,rfl,fun _=>Ac,hl⟩
 rintro v S1 ⟨C,rfl,hB,hl⟩
 refine zg ?_
 constructor<;>intro DO
 ·
  refine zg ?_
  exact(z1 rfl ⟨hl.AD,false,rfl,nofun⟩)
 have Ac:=hB DO
 obtain⟨j,hj,RB⟩:=I1 (i:=s.t-1) (C:=x.L.length) AA AA
 have RA:(s.t-1).toNat=j:=by omega
 obtain⟨y,hy⟩:=Ad RB
 obtain⟨b2,o2,EH,ha,_,AQ,Aa⟩:=hk.l.elem hy
 rw[←RA]at Aa
 refine zg ?_;refine BC (idx:=[0,1,2,3,4,5,6,7,8,9,10]) rfl AB AB ?_;refine zg ?_;refine KZ hF hl rfl rfl rfl rfl rfl (z:=[.int .i64 0,.int .i64 0,.bool false,.bool false,.bool false,.int .i64 0,.int .i64 0,.int .i64 0,.int .i64 0,.int .i64 0,.int .i64 0,.int .i64 0]) AB ?_;intro B6 S6 hl
 refine pL hl 0 y.cells (h:=fun S1 hl=>⟨zt,?_⟩)
 clear ha AQ Aa
 refine zA ?_;refine AG rfl (Ex (fun Le S'=>∃b:Bool,Af [(4,.bool b)] Le∧AL S S') ?_ ?_)
 ·
  refine BC (idx:=[0,1,2,3,4,5,6,7,8,9,10,11,12,13,14,15,16,17,18,19,20,21,22,23,24,25,26,27,28,29,30,31,32]) rfl AB AB ?_;refine zg ?_;refine pr rfl (BY rfl rfl rfl) ?_;refine zg ?_;refine Ep (d:=53) rfl (fun FC=>?_) (fun FC=>?_)
  ·
   refine zg ?_;refine pr rfl (BY rfl rfl rfl) ?_;refine zg ?_;refine Ep (d:=58) rfl (fun Wj=>?_) (fun Wj=>?_)
   ·
    refine zg ?_;refine pr rfl (BY rfl rfl rfl) ?_;refine zg ?_;refine Ep (d:=63) rfl (fun Z3=>?_) (fun Z3=>?_)
    ·
     refine zg ?_;refine Ep (d:=73) rfl (fun O0=>?_) (fun O0=>?_)
     ·
      refine zg ?_
      exact⟨rfl,_,⟨bl rfl,trivial⟩,hl.AD⟩
     refine zg ?_
     exact⟨rfl,_,⟨bl rfl,trivial⟩,hl.AD⟩
    refine zg ?_
    exact⟨rfl,_,⟨bl rfl,trivial⟩,hl.AD⟩
   refine zg ?_
   exact⟨rfl,_,⟨bl rfl,trivial⟩,hl.AD⟩
  refine zg ?_
  exact⟨rfl,_,⟨bl rfl,trivial⟩,hl.AD⟩
 rintro Le S1 ⟨b,AH,RF⟩;refine AK AH ?_
 refine zg ?_
 exact y1 rfl ⟨RF,_,rfl,fun _ u hu=>by rw[hs]at hu;cases hu;exact Ac⟩
end Go.Proofs.YtmfphenhpkgidaaGreatDoor
namespace Go.Proofs.YtmfphenhpkgidaaGreatDoor
open Go.Cm Go
set_option maxRecDepth 100000
variable{S:St}
def M5(s:Se)(D:List Int):Prop:= ∀c,c∈D→((c=1∨c=3)→0≤s.l)∧((c=2∨c=3)→0≤s.r)∧(c=4→s.f≠s.t)
theorem M5.push{s:Se}{D:List Int}(h:M5 s D){c:Int}(hc:((c=1∨c=3)→0≤s.l)∧((c=2∨c=3)→0≤s.r)∧(c=4→s.f≠s.t)):M5 s (D++[c]):=fun d hd=>by
 rcases List.mem_append.1 hd with h1|h1
 ·exact h d h1
 rw[List.mem_singleton.1 h1]
 exact hc
set_option maxHeartbeats 4000000 in
theorem AAS(B:Nat)(x:D8)(hm:x.M.length<x.G.length)(hF:BW S)(hd:At S B x.Bn)(hx:x.Fit)(hk:x.Ok S):CC Tryz.prog KK 234 [ptrTo B 0] S (fun v S'=>AL S S'∧(∃av D,v= .slice av D.length D.length∧CZ S' (.slice av D.length D.length) D∧D.length≤2∧∀s,nth x.G x.M.length=some s→M5 s D)):=by
 refine ce 84 Tryz.func234 fun hl=>?_
 obtain⟨s,hs⟩:=Ad hm
 have Fz:=hx.s s (BV hs)
 have aN:=hx.l
 have Ja:=hx.g
 obtain⟨b1,o1,BF,ha,_,AQ,Aa⟩:=hk.g.elem hs
 refine zg ?_;refine aL hl [.int .i64 0,.int .i64 0,.int .i64 0,.int .i64 0,.bool false,.int .i64 0,.int .i64 0] fun B4 S4 hl=>?_;refine sL hl 0 s.cells fun S1 hl=>?_
 clear ha AQ Aa
 refine zg ?_
 constructor<;>intro DN
 ·
  have hl:=hl.D2 (g:=Cx none []) (.inl ⟨rfl,rfl,rfl⟩)
  obtain⟨av,D,⟨Q4,hA⟩,hD⟩:∃(av:Option Addr) (D:List Int),((av=none∧D= [])∧M5 s D)∧D.length≤0:=⟨none,[],⟨⟨rfl,rfl⟩,fun c hc=>(List.not_mem_nil hc).elim⟩,by decide⟩
  refine AK (L':=[(5,.slice av D.length D.length),(3,.int .i64 (x.M.length:Int)),(2,.slice none 0 0),(0,ptrTo B 0),(4,ptrTo B4 0)]) (by obtain⟨rfl,rfl⟩:=Q4;exact sE) ?_
  have hl:AE S [S] S1 [(B4,.cells s.cells 328 false true [])] [Cx av D]:=by obtain⟨rfl,rfl⟩:=Q4;exact hl
  clear Q4
  refine zg ?_;refine dL hl (ic 0) Tryz.underlying38 fun Br S1 hr hl=>?_;refine DZ hl 0 rfl rfl (by simp) rfl rfl rfl rfl rfl rfl rfl Tryz.underlying38 Tryz.underlying38 rfl rfl AB (Cj (n:=1) (cap:=1) hr rfl) rfl rfl AB (by show D.length+1≤Ae;unfold Ae;omega) ?_;intro vn S1 hl
  obtain⟨As,rfl⟩:∃x,vn= .slice x (D.length+1) (D.length+1):=Am.C5 (hl.gr _ Al)
  have hl:AE S [S] S1 _ [Cx As (D++[0])]:=JQ hl
  have UE:(D++[0]).length≤1:=by rw[A8];omega
  have hA:=hA.push (c:=0) ⟨fun h=>by omega,fun h=>by omega,fun h=>by omega⟩
  have e1:D.length+1=(D++[(0:Int)]).length:=(A8 ..).symm
  rw[e1]
  clear hD e1
  generalize D++[(0:Int)]=D at *
  refine zA ?_;refine AG rfl (Ex (fun Le S'=>∃(av:Option Addr) (D:List Int),D.length≤2∧M5 s D∧Af [(5,.slice av D.length D.length),(3,.int .i64 (x.M.length:Int)),(2,.slice none 0 0),(0,ptrTo B 0)] Le∧AE S [S] S' [(B4,.cells s.cells 328 false true [])] [Cx av D]) ?_ ?_)
  ·
   refine AG rfl (JF 38 (fun v S'=>∃B:Bool,v= .bool B∧(B=true→0≤s.l)∧AE S [S] S' [(B4,.cells s.cells 328 false true [])] [Cx As D]) ?_ ?_)
   ·
    refine zg ?_;refine AZ (d:=27) rfl (fun CX=>?_) (fun CX=>?_)
    ·
     refine zg ?_;refine AZ (d:=34) rfl (fun E2=>?_) (fun E2=>?_)
     ·
      refine zg ?_
      refine zc hl rfl (oE B x hm (hl.AD.3 hF) ⟨fun g=>hd.at_ (hl.AD.trans g)⟩ hx (hk.move (hl.since 0 rfl))) ?_;rintro v S1 AM ⟨qE,rfl,XB⟩ hl
      refine zg ?_
      exact⟨rfl,_,bl rfl,sB,_,rfl,fun h=>XB h s hs,hl⟩
     refine zg ?_
     exact⟨rfl,_,bl rfl,sB,false,rfl,nofun,hl⟩
    refine zg ?_
    exact⟨rfl,_,bl rfl,sB,false,rfl,nofun,hl⟩
   rintro v S1 ⟨Q38,rfl,AGA,hl⟩
   refine zg ?_
   constructor<;>intro Fh
   ·
    refine zg ?_;refine dL hl (ic 1) Tryz.underlying38 fun Br S1 hr hl=>?_;refine DZ hl 0 rfl rfl (by simp) rfl rfl rfl rfl rfl rfl rfl Tryz.underlying38 Tryz.underlying38 rfl rfl AB (Cj (n:=1) (cap:=1) hr rfl) rfl rfl AB (by show D.length+1≤Ae;unfold Ae;omega) ?_;intro vn S1 hl
    obtain⟨As,rfl⟩:∃x,vn= .slice x (D.length+1) (D.length+1):=Am.C5 (hl.gr _ Al)
    have hl:AE S [S] S1 _ [Cx As (D++[1])]:=JQ hl
    refine zg ?_
    exact⟨rfl,As,_,by rw[A8];omega,hA.push ⟨fun _=>AGA Fh,fun h=>by omega,fun h=>by omega⟩,⟨by rw[A8];rfl,rfl,rfl,rfl,trivial⟩,hl⟩
   refine zg ?_
   exact⟨rfl,As,D,AA,hA,sE,hl⟩
  clear hl;rintro Le S1 ⟨av,D,hD,hA,AH,hl⟩;refine AK AH ?_
  refine zg ?_
  exact(z1 rfl ⟨hl.AD,av,D,rfl,Am.ls (f:=ic) (fun _=>rfl) (hl.gr _ Al),hD,fun u hu=>by rw[hs]at hu;cases hu;exact hA⟩)
 have hl:=hl.D2 (g:=Cx none []) (.inl ⟨rfl,rfl,rfl⟩)
 obtain⟨av,D,⟨Q4,hA⟩,hD⟩:∃(av:Option Addr) (D:List Int),((av=none∧D= [])∧M5 s D)∧D.length≤0:=⟨none,[],⟨⟨rfl,rfl⟩,fun c hc=>(List.not_mem_nil hc).elim⟩,by decide⟩
 refine AK (L':=[(5,.slice av D.length D.length),(3,.int .i64 (x.M.length:Int)),(2,.slice none 0 0),(0,ptrTo B 0),(4,ptrTo B4 0)]) (by obtain⟨rfl,rfl⟩:=Q4;exact sE) ?_
 have hl:AE S [S] S1 [(B4,.cells s.cells 328 false true [])] [Cx av D]:=by obtain⟨rfl,rfl⟩:=Q4;exact hl
 clear Q4
 refine zg ?_
 constructor<;>intro EV
 ·
  refine zg ?_;refine dL hl (ic 0) Tryz.underlying38 fun Br S1 hr hl=>?_;refine DZ hl 0 rfl rfl (by simp) rfl rfl rfl rfl rfl rfl rfl Tryz.underlying38 Tryz.underlying38 rfl rfl AB (Cj (n:=1) (cap:=1) hr rfl) rfl rfl AB (by show D.length+1≤Ae;unfold Ae;omega) ?_;intro vn S1 hl
  obtain⟨As,rfl⟩:∃x,vn= .slice x (D.length+1) (D.length+1):=Am.C5 (hl.gr _ Al)
  have hl:AE S [S] S1 _ [Cx As (D++[0])]:=JQ hl
  refine zg ?_
  exact y1 rfl ⟨hl.AD,As,_,by rw[A8],Am.ls (f:=ic) (fun _=>rfl) (hl.gr _ Al),by rw[A8];omega,fun u hu=>by rw[hs]at hu;cases hu;exact hA.push ⟨fun h=>by omega,fun h=>by omega,fun h=>by omega⟩⟩
 refine zS ?_;refine zi tt rfl ?_
 constructor<;>intro GH
 ·
  refine AG rfl (Ex (fun Le S'=>∃(av:Option Addr) (D:List Int),D.length≤1∧M5 s D∧Af [(5,.slice av D.length D.length),(3,.int .i64 (x.M.length:Int)),(2,.slice none 0 0),(0,ptrTo B 0)] Le∧AE S [S] S' [(B4,.cells s.cells 328 false true [])] [Cx av D]) ?_ ?_)
  ·
   refine zg ?_
   refine zc hl rfl (oE B x hm (hl.AD.3 hF) ⟨fun g=>hd.at_ (hl.AD.trans g)⟩ hx (hk.move (hl.since 0 rfl))) ?_;rintro v S1 AM ⟨qE,rfl,XB⟩ hl
   refine zg ?_
   constructor<;>intro O0
   ·
    refine zg ?_;refine dL hl (ic 1) Tryz.underlying38 fun Br S1 hr hl=>?_;refine DZ hl 0 rfl rfl (by simp) rfl rfl rfl rfl rfl rfl rfl Tryz.underlying38 Tryz.underlying38 rfl rfl AB (Cj (n:=1) (cap:=1) hr rfl) rfl rfl AB (by show D.length+1≤Ae;unfold Ae;omega) ?_;intro vn S1 hl
    obtain⟨As,rfl⟩:∃x,vn= .slice x (D.length+1) (D.length+1):=Am.C5 (hl.gr _ Al)
    have hl:AE S [S] S1 _ [Cx As (D++[1])]:=JQ hl
    refine zg ?_
    exact⟨rfl,As,_,by rw[A8];omega,hA.push ⟨fun _=>XB O0 s hs,fun h=>by omega,fun h=>by omega⟩,⟨by rw[A8];rfl,rfl,rfl,rfl,trivial⟩,hl⟩
   refine zg ?_
   exact⟨rfl,av,D,AA,hA,sE,hl⟩
  clear hl hD;rintro Le S1 ⟨av,D,hD,hA,AH,hl⟩;refine AK AH ?_
  refine zg ?_
  refine zc hl rfl (AAX B x hm (hl.AD.3 hF) ⟨fun g=>hd.at_ (hl.AD.trans g)⟩ hx (hk.move (hl.since 0 rfl))) ?_;rintro v S1 AM ⟨ABn,rfl,iL⟩ hl
  refine zg ?_
  constructor<;>intro O1
  ·
   refine zg ?_;refine dL hl (ic 2) Tryz.underlying38 fun Br S1 hr hl=>?_;refine DZ hl 0 rfl rfl (by simp) rfl rfl rfl rfl rfl rfl rfl Tryz.underlying38 Tryz.underlying38 rfl rfl AB (Cj (n:=1) (cap:=1) hr rfl) rfl rfl AB (by show D.length+1≤Ae;unfold Ae;omega) ?_;intro vn S1 hl
   obtain⟨As,rfl⟩:∃x,vn= .slice x (D.length+1) (D.length+1):=Am.C5 (hl.gr _ Al)
   have hl:AE S [S] S1 _ [Cx As (D++[2])]:=JQ hl
   refine zg ?_
   exact y1 rfl ⟨hl.AD,As,_,by rw[A8],Am.ls (f:=ic) (fun _=>rfl) (hl.gr _ Al),by rw[A8];omega,fun u hu=>by rw[hs]at hu;cases hu;exact hA.push ⟨fun h=>by omega,fun _=>iL O1 s hs,fun h=>by omega⟩⟩
  refine zg ?_
  exact y1 rfl ⟨hl.AD,av,D,rfl,Am.ls (f:=ic) (fun _=>rfl) (hl.gr _ Al),AA,fun u hu=>by rw[hs]at hu;cases hu;exact hA⟩
 refine AG rfl (Ex (fun Le S'=>∃(av:Option Addr) (D:List Int),D.length≤1∧M5 s D∧Af [(5,.slice av D.length D.length),(3,.int .i64 (x.M.length:Int)),(2,.slice none 0 0),(0,ptrTo B 0)] Le∧AE S [S] S' [(B4,.cells s.cells 328 false true [])] [Cx av D]) ?_ ?_)
 ·
  refine AG rfl (JF 54 (fun v S'=>∃B:Bool,v= .bool B∧(B=true→0≤s.l∧0≤s.r)∧AE S [S] S' [(B4,.cells s.cells 328 false true [])] [Cx av D]) ?_ ?_)
  ·
   refine zg ?_
   refine zc hl rfl (oE B x hm (hl.AD.3 hF) ⟨fun g=>hd.at_ (hl.AD.trans g)⟩ hx (hk.move (hl.since 0 rfl))) ?_;rintro v S1 AM ⟨qE,rfl,XB⟩ hl
   refine zg ?_;refine AZ (d:=50) rfl (fun H7=>?_) (fun H7=>?_)
   ·
    refine zg ?_
    refine zc hl rfl (AAX B x hm (hl.AD.3 hF) ⟨fun g=>hd.at_ (hl.AD.trans g)⟩ hx (hk.move (hl.since 0 rfl))) ?_;rintro v S1 AM ⟨ABn,rfl,iL⟩ hl
    refine zg ?_
    exact⟨rfl,_,bl rfl,sB,_,rfl,fun h=>⟨XB H7 s hs,iL h s hs⟩,hl⟩
   refine zg ?_
   exact⟨rfl,_,bl rfl,sB,false,rfl,nofun,hl⟩
  rintro v S1 ⟨Q54,rfl,tv,hl⟩
  refine zg ?_
  constructor<;>intro Ip
  ·
   refine zg ?_;refine dL hl (ic 3) Tryz.underlying38 fun Br S1 hr hl=>?_;refine DZ hl 0 rfl rfl (by simp) rfl rfl rfl rfl rfl rfl rfl Tryz.underlying38 Tryz.underlying38 rfl rfl AB (Cj (n:=1) (cap:=1) hr rfl) rfl rfl AB (by show D.length+1≤Ae;unfold Ae;omega) ?_;intro vn S1 hl
   obtain⟨As,rfl⟩:∃x,vn= .slice x (D.length+1) (D.length+1):=Am.C5 (hl.gr _ Al)
   have hl:AE S [S] S1 _ [Cx As (D++[3])]:=JQ hl
   refine zg ?_
   exact⟨rfl,As,_,by rw[A8];omega,hA.push ⟨fun _=>(tv Ip).1,fun _=>(tv Ip).2,fun h=>by omega⟩,⟨by rw[A8];rfl,rfl,rfl,rfl,trivial⟩,hl⟩
  refine zg ?_
  exact⟨rfl,av,D,AA,hA,sE,hl⟩
 clear hl hD;rintro Le S1 ⟨av,D,hD,hA,AH,hl⟩;refine AK AH ?_
 refine zg ?_
 refine zc hl rfl (AOF B x hm (hl.AD.3 hF) ⟨fun g=>hd.at_ (hl.AD.trans g)⟩ hx (hk.move (hl.since 0 rfl))) ?_;rintro v S1 AM ⟨AS7,rfl,AGD⟩ hl
 refine zg ?_
 constructor<;>intro Oz
 ·
  refine zg ?_;refine dL hl (ic 4) Tryz.underlying38 fun Br S1 hr hl=>?_;refine DZ hl 0 rfl rfl (by simp) rfl rfl rfl rfl rfl rfl rfl Tryz.underlying38 Tryz.underlying38 rfl rfl AB (Cj (n:=1) (cap:=1) hr rfl) rfl rfl AB (by show D.length+1≤Ae;unfold Ae;omega) ?_;intro vn S1 hl
  obtain⟨As,rfl⟩:∃x,vn= .slice x (D.length+1) (D.length+1):=Am.C5 (hl.gr _ Al)
  have hl:AE S [S] S1 _ [Cx As (D++[4])]:=JQ hl
  refine zg ?_
  exact y1 rfl ⟨hl.AD,As,_,by rw[A8],Am.ls (f:=ic) (fun _=>rfl) (hl.gr _ Al),by rw[A8];omega,fun u hu=>by rw[hs]at hu;cases hu;exact hA.push ⟨fun h=>by omega,fun h=>by omega,fun _=>AGD Oz s hs⟩⟩
 refine zg ?_
 exact y1 rfl ⟨hl.AD,av,D,rfl,Am.ls (f:=ic) (fun _=>rfl) (hl.gr _ Al),AA,fun u hu=>by rw[hs]at hu;cases hu;exact hA⟩
end Go.Proofs.YtmfphenhpkgidaaGreatDoor
namespace Go.Proofs.YtmfphenhpkgidaaGreatDoor
open Go.Cm Go
set_option maxRecDepth 100000
variable{S:St}
theorem zx{a:Value}{z:List Value}{c:List Value}:∀(p:List Value) {k:Nat} {r:List Value},Bq k (a::z) c=some r→Bq (p.length+k) (a::z) (p++c)=some (p++r)
 | [],k,r,h=>by rw[List.length_nil,Nat.zero_add];exact h
 |x::p,k,r,h=>by
  have e:=zx p h
  rw[List.length_cons,show p.length+1+k=(p.length+k)+1 by omega]
  simp only[List.cons_append,Bq,e]
theorem nr(r:List Value):∀(o:Nat) (w c:List Value) {d:List Value},Bq o w c=some d→Bq o w (c++r)=some (d++r)
 |_,[],c,d,h=>by
  have e:some c=some d:=by rw[←h];unfold Bq;rfl
  cases e
  unfold Bq;rfl
 |0,_::_,[],_,h=>by cases h
 |0,x::xs,y::l,d,h=>by
  unfold Bq at h
  split at h
  ·rename_i q hq
   cases h
   have e:=nr r 0 xs l hq
   rw[List.cons_append]
   unfold Bq
   rw[e]
   rfl
  cases h
 |_+1,_::_,[],_,h=>by cases h
 |o+1,x::xs,y::l,d,h=>by
  unfold Bq at h
  split at h
  ·rename_i q hq
   cases h
   have e:=nr r o (x::xs) l hq
   rw[List.cons_append]
   unfold Bq
   rw[e]
   rfl
  cases h
theorem zr{α:Type}{f:α→List Value}{z:Nat}(hz:∀x,(f x).length=z){a:Value}{w:List Value}{x y:α}{j:Nat}(hw:Bq j (a::w) (f x)=some (f y)):∀(D:List α) (i:Nat),nth D i=some x→Bq (i*z+j) (a::w) ((D.map f).flatten)=some (((D.set i y).map f).flatten)
 | [],_,h=>by cases h
 |q::D,0,h=>by
  cases h
  rw[Nat.zero_mul,Nat.zero_add]
  exact nr _ j _ _ hw
 |q::D,i+1,h=>by
  have e:=zx (f q) (zr hz hw D i h)
  rw[hz,show z+(i*z+j)=(i+1)*z+j by rw[Nat.add_mul];omega]at e
  exact e
theorem AKN{P:Program}{K:BX}{n:Nat}{L:Env}{S S0:St}{Q:CV}{ops:List Oper}{o:Oper}{Ts:List St}{l:List (Nat×AF)}{gs:List Gr}{AJ:List Nat}{pl:List (Oper×Nat)}{q j d:Nat}{E:List DE}(hF:BW S0)(hl:AE S0 Ts S l gs){e:TypeId}{x:Operand}{v:Value}(ho:nth pl q=some (o,j))(AV:o.op= .box e x)(hw:Be ops L o=some true)(hd:o.dst=some d)(hn:Nat.blt d n=true)(hx:Cm.A7 L x=some v)
  (h:∀B S',AE S0 Ts S' ((B,.cells (BG v) e false true [])::l) gs→RP P K n ops AJ pl (q+1) (⟨j,o.op,undef,L,some (B,BG v,e,false)⟩::E) ((d,ptrTo B 0)::L) S' Q):RP P K n ops AJ pl q E L S Q :=
 nN ho (by rw[AV];rfl) hw hd hn (fun a ha=>by rw[AV];simp only[DY,ha.ev hx];rfl) (hl.AD.3 hF _ (Nat.le_refl _)) (h _ _ (hl.new _))
abbrev E8(v:Value)(C:List It)(fr:List (Nat×AF)):Prop:=OW v 266 12 ((C.map It.cells).flatten) C.length fr
theorem OW.at_{α:Type}{f:α→List Value}{C:List α}{v:Value}{e:TypeId}{z:Nat}{fr l:List (Nat×AF)}{S0 T:St}{Ts:List St}{gs:List Gr}(hz:∀x,(f x).length=z)(h:OW v e z ((C.map f).flatten) C.length fr)(hl:AE S0 Ts T l gs)(hm:∀p,p∈fr→p∈l):A0 e z f T v C:=by
 rcases h with ⟨rfl,_,h3,_⟩|⟨b,dd,rfl,_,rfl,_⟩
 ·have:C= []:=List.length_eq_zero_iff.1 h3
  subst this
  exact A0.nil
 obtain⟨h1,_,h2⟩:=hl.at_ b _ (hm _ Al)
 exact A0.row hz ⟨h2,_,_,h1⟩ rfl
theorem YF{P:Program}{K:BX}{n:Nat}{L:Env}{S S':St}{Q:CV}{ops:List Oper}{o:Oper}{AJ:List Nat}{pl:List (Oper×Nat)}{q j d:Nat}{E:List DE}{bi:Builtin}{ar:Array Operand}{ts:Array TypeId}{vs:List Value}{v:Value}(ho:nth pl q=some (o,j))(AV:o.op= .call ⟨.builtin bi,ar,ts⟩)(hw:Be ops L o=some true)(hd:o.dst=some d)(hn:Nat.blt d n=true)
  (hb:kindOf (.call ⟨.builtin bi,ar,ts⟩)= .Fk)(hx:Cm.D3 L ar.toList=some vs)(hv:ER P bi ts.toList vs S=some (v,S'))(h:FP P n S' ((nth AJ j).getD 0) E∧RP P K n ops AJ pl (q+1) (left ((nth AJ j).getD 0) E) ((d,v)::L) S' Q):RP P K n ops AJ pl q E L S Q :=
 YG ho (by rw[AV];exact hb) hw hd hn (fun a ha=>⟨0,by rw[AV];unfold CG;rw[hb];simp only[NW ha hx,hv]⟩) h.1 h.2
theorem E8.set{b n i o:Nat}{L:List It}{q fr l:List (Nat×AF)}{Sb S:St}{x y:It}{v:Ti}(hO:E8 (.slice (some ⟨b,0,none⟩) n n) L fr)(hL:L.length=n)(hx:nth L i=some x)(hs:Bq o v.cells x.cells=some y.cells)(hl:AE Sb [Sb] S (q++(fr++l)) []) :
  ∃S' Cs,Fs Tryz.prog 103 (ptrTo b (0+i*12+o)) v.v S=some S'∧E8 (.slice (some ⟨b,0,none⟩) n n) (L.set i y) Cs∧AE Sb [Sb] S' (q++(Cs++l)) []:=by
 have hn:0<n:=by have:=I5 hx;omega
 subst hL
 obtain⟨bx,S',Cs,e1,Cc,Ei,CY⟩:=Yc (P:=Tryz.prog) (k:=0+i*12+o) (t:=103) (u:=v.v) hl hO hn rfl AB (by rw[Nat.zero_add];exact zr (f:=It.cells) (z:=12) (fun _=>rfl) (j:=o) hs _ i hx) ((HF (f:=It.cells) (z:=12) (fun _=>rfl) _).trans ((congrArg (· *12) List.length_set).trans (HF (f:=It.cells) (z:=12) (fun _=>rfl) _).symm))
 cases e1
 refine⟨S',Cs,Cc,?_,CY⟩
 unfold E8
 rw[List.length_set]
 exact Ei
theorem Jg{α:Type}{q fr l:List α}:∀p,p∈fr→p∈q++(fr++l):=fun _ hp=>List.mem_append.2 (.inr (List.mem_append.2 (.inl hp)))
section
variable{n:Nat}{ro:Option Nat}{L:Env}{S S0:St}{Q:CV}{ops:List Oper}{i d:Nat}{o:Oper}{P:Program}{K:BX}{a:Option Addr}
theorem AB2(ha:a=none∨∃b,a=some ⟨b,0,none⟩){e:TypeId}{z len:Nat}{ts:Array TypeId}{sT xT:TypeId}{xd:TypeDesc}{x:Value}(CT:ts.toList= [sT,xT])(hu:P.underlying sT=some (.slice e))(Dd:P.underlying xT=some xd)(hi:FV xd=false)(hlen:F6 x=some 0)(hz:A5 P e=some z)(hs:EN S z 0 x=some []):ER P .append ts.toList [.slice a len len,x] S=some (.slice a len len,S):=by
 unfold ER
 simp only
 have:Fx P ts.toList (.slice a len len) x S=some (.slice a len len,S):=by
  unfold Fx
  rw[CT]
  simp only[hu,Dd,hlen,hi,hz,hs,cond_false]
  unfold Fw
  have hb:Nat.ble (len+0) len=true:=Nat.ble_eq_true_of_le (Nat.le_refl _)
  rw[hb]
  simp only[cond_true]
  unfold Tv
  rcases ha with rfl|⟨b,rfl⟩<;>rfl
 rw[this]
theorem OW.sh{v:Value}{e:TypeId}{z len:Nat}{c:List Value}{fr:List (Nat×AF)}(h:OW v e z c len fr):(∃a,v= .slice a len len∧(a=none∨∃b,a=some ⟨b,0,none⟩))∧c.length=len*z:=by
 rcases h with ⟨rfl,rfl,rfl,_⟩|⟨b,dd,rfl,h2,_⟩
 ·exact⟨⟨none,rfl,.inl rfl⟩,by rw[Nat.zero_mul];rfl⟩
 exact⟨⟨_,rfl,.inr ⟨b,rfl⟩⟩,h2⟩
theorem AKM{q l:List (Nat×AF)}{Ts:List St}{v:Value}{e:TypeId}{z len:Nat}{c:List Value}{fr:List (Nat×AF)}{AJ:List Nat}{pl:List (Oper×Nat)}{k j:Nat}{E:List DE}(hl:AE S0 Ts S (q++(fr++l)) [])(hg:OW v e z c len fr){ar:Array Operand}{ts:Array TypeId}{sT xT:TypeId}{xd:TypeDesc}{x:Value}{m:Nat}{new:List Value}
  (ho:nth pl k=some (o,j))(AV:o.op= .call ⟨.builtin .append,ar,ts⟩)(hw:Be ops L o=some true)(Hg:o.dst=some d)(AN:Nat.blt d n=true)(hx:Cm.D3 L ar.toList=some [v,x])(CT:ts.toList= [sT,xT])
  (hu:P.underlying sT=some (.slice e))(Dd:P.underlying xT=some xd)(hi:FV xd=false)(hlen:F6 x=some m)(hz:A5 P e=some z)(hs:EN S z m x=some new)
  (Cb:new.length=m*z)(hc:new.all D9=true)(FF:Io P e z=true)(FU:len+m≤Ae)
  (h:∀v' Cs S',OW v' e z (c++new) (len+m) Cs→AE S0 Ts S' (q++(Cs++l)) []→FP P n S' ((nth AJ j).getD 0) E∧RP P K n ops AJ pl (k+1) (left ((nth AJ j).getD 0) E) ((d,v')::L) S' Q):RP P K n ops AJ pl k E L S Q:=by
 rcases Nat.eq_zero_or_pos m with hm|hm
 ·subst hm
  have Cg:new= []:=List.length_eq_zero_iff.1 (by rw[Cb,Nat.zero_mul])
  subst Cg
  obtain⟨⟨a,rfl,ha⟩,_⟩:=hg.sh
  exact YF ho AV hw Hg AN rfl hx (AB2 ha CT hu Dd hi hlen hz hs) (h _ fr S (by rw[List.append_nil];exact hg) hl)
 exact nL hl hg ho AV hw Hg AN hx CT hu Dd hi hlen hm hz hs Cb hc FF FU h
end
abbrev Ic(v:Value)(C:List Int)(fr:List (Nat×AF)):Prop:=OW v 3 1 ((C.map ic).flatten) C.length fr
def Kp(Sb S:St)(B:Nat)(x:D8):Prop:= ∃fN fM,E8 (.slice x.an x.N.length x.N.length) x.N fN∧Ic (.slice x.am x.M.length x.M.length) x.M fM∧AE Sb [Sb] S ([(B,x.Bn)]++(fN++(fM++[]))) []
structure D8.Old(S:St)(x:D8):Prop where
 l:Gu S (.slice x.al x.L.length x.cl) x.L
 g:eX S (.slice x.ag x.G.length x.cg) x.G
theorem Kp.AD{Sb S:St}{B:Nat}{x:D8}(h:Kp Sb S B x):AL Sb S:=by
 obtain⟨_,_,_,_,hl⟩:=h
 exact hl.AD
theorem Kp.ok{Sb S:St}{B:Nat}{x:D8}(h:Kp Sb S B x)(ho:x.Old Sb):x.Ok S:=by
 obtain⟨fN,fM,hN,hM,hl⟩:=h
 exact⟨ho.l.move (hl.since 0 rfl),OW.at_ (f:=It.cells) (fun _=>rfl) hN hl Jg,ho.g.move (hl.since 0 rfl),OW.at_ (f:=ic) (fun _=>rfl) hM hl (fun p hp=>List.mem_append.2 (.inr (List.mem_append.2 (.inr (List.mem_append.2 (.inl hp))))))⟩
theorem Kp.at_{Sb S:St}{B:Nat}{x:D8}(h:Kp Sb S B x):At S B x.Bn:=by
 obtain⟨fN,fM,hN,hM,hl⟩:=h
 have h3:=hl.at_ B _ Al
 exact⟨fun g=>(g.2 B h3.2.2).trans h3.1⟩
end Go.Proofs.YtmfphenhpkgidaaGreatDoor
namespace Go.Proofs.YtmfphenhpkgidaaGreatDoor
open Go.Cm Go
set_option maxRecDepth 100000
variable{S:St}
structure M7(m:Int)(n:Nat)(D:List Bd):Prop where
 p:D.Pairwise fun a b=>a.t≤b.f
 b:∀d,d∈D→0≤d.f∧d.f≤d.t∧d.t≤m∧ -1≤d.i∧d.i<n
theorem M7.push{m m':Int}{n:Nat}{D:List Bd}(h:M7 m n D){x:Bd}(h0:0≤m)(h1:m≤x.f)(h2:x.f≤x.t)(h3:x.t≤m')(h4: -1≤x.i)(h5:x.i<n):M7 m' n (D++[x]):=by
 refine⟨List.pairwise_append.2 ⟨h.p,List.pairwise_singleton _ _,fun a ha b hb=>?_⟩,fun d hd=>?_⟩
 ·rw[List.mem_singleton.1 hb]
  have:=h.b a ha
  omega
 rcases List.mem_append.1 hd with h6|h6
 ·have:=h.b d h6
  omega
 rw[List.mem_singleton.1 h6]
 omega
theorem M7.up{m m':Int}{n:Nat}{D:List Bd}(h:M7 m n D)(h0:m≤m'):M7 m' n D:=⟨h.p,fun d hd=>by have:=h.b d hd;omega⟩
abbrev gB(av:Option Addr)(D:List Bd):Gr:=Hc 325 3 Bd.cells (.slice av D.length D.length) D
abbrev WQ(a:Option Addr)(cap n:Nat)(k:Int)(i:Int)(av:Option Addr)(D:List Bd):Env:=[(6,.int .i64 i),(5,.slice av D.length D.length),(4,.slice none 0 0),(0,.int .i64 k),(1,.slice a n cap)]
theorem sn{a:Option Addr}{cap n:Nat}{k i:Int}{av:Option Addr}{D:List Bd}{x:Bd}{L:Env}(h:Af [(6,.int .i64 i),(5,.slice av (D.length+1) (D.length+1)),(4,.slice none 0 0),(0,.int .i64 k),(1,.slice a n cap)] L):Af (WQ a cap n k i av (D++[x])) L:=by
 unfold WQ
 rw[A8]
 exact h
theorem gZ{Ts:List St}{S0 S1:St}{l:List (Nat×AF)}{av:Option Addr}{D:List Bd}{x:Bd}(h:AE S0 Ts S1 l [⟨.slice av (D.length+1) (D.length+1),325,3,(D.map Bd.cells).flatten++x.cells,D.length+1⟩]):AE S0 Ts S1 l [gB av (D++[x])]:=by
 unfold gB
 rw[Im]
 exact h
theorem AN8(k:Int)(a:Option Addr)(cap:Nat)(C:List It)(hn:C.length≤1000)(_:BW S)(hv:Gu S (.slice a C.length cap) C):CC Tryz.prog KK 229 [.int .i64 k,.slice a C.length cap] S (fun v S'=>AL S S'∧(∃av D,v= .slice av D.length D.length∧Bds S' v D∧M7 C.length C.length D∧2≤D.length∧D.length≤2*C.length+2)):=by
 refine ce 69 Tryz.func229 fun hl=>?_;refine zg ?_;refine rr rfl (A9 rfl rfl (v:=AX [.int .i64 0,.int .i64 0,.int .i64 (-1)]) (by rfl)) ?_;refine mn hl 3 rfl rfl rfl rfl rfl Tryz.underlying322 rfl (c:=[.int .i64 0,.int .i64 0,.int .i64 (-1)]) AB rfl ?_;intro w8 S1 hl
 obtain⟨av,rfl⟩:∃x,w8= .slice x 1 1:=Am.C5 (hl.gr _ Al)
 have hl:AE S [S] S1 [] [gB av [⟨0,0, -1⟩]]:=hl
 refine zA ?_;refine AG rfl ?_;refine zS ?_;refine Az rfl ?_;refine AK (L':=WQ a cap C.length k 0 av [⟨0,0, -1⟩]) sE ?_
 refine A2 rfl (fun m Le S'=>∃(i:Nat) (av:Option Addr) (D:List Bd),i≤C.length∧m=C.length-i∧M7 i C.length D∧1≤D.length∧D.length≤2*i+1∧Af (WQ a cap C.length k i av D) Le∧AE S [S] S' [] [gB av D]) ?_ (m:=C.length) ⟨0,av,_,AA,AA,⟨List.pairwise_singleton _ _,fun d hd=>by rw[List.mem_singleton.1 hd];exact⟨by decide,by decide,by decide,by decide,by show(-1:Int)<_;omega⟩⟩,by show 1≤1;omega,by show 1≤_;omega,sE,hl⟩
 clear hl;rintro m Le S' ⟨i,av,D,hi,rfl,hD,UE,Qw,AH,hl⟩;refine AK AH ?_
 refine zg ?_
 constructor<;>intro Cf
 ·
  have AN:i<C.length:=dT Cf
  obtain⟨x,hx⟩:=Ad AN
  obtain⟨b1,o1,BF,ha,_,AQ,Aa⟩:=hv.elem hx
  refine Ar rfl ?_;refine AG rfl ?_;refine Az rfl ?_;refine AG rfl (Ex (fun Le S'=>∃(m:Int) (av:Option Addr) (D:List Bd),(m=i∨m=i+1)∧M7 m C.length D∧1≤D.length∧D.length≤2*i+2∧Af (WQ a cap C.length k i av D) Le∧AE S [S] S' [] [gB av D]) ?_ ?_)
  ·
   refine AG rfl (HW hl 29 Value.bool ?_ rfl ?_)
   ·
    refine zg ?_;refine rr rfl (BY rfl rfl rfl) ?_;refine zg ?_;refine AZ (d:=21) rfl (fun Bf=>?_) (fun Bf=>?_)
    ·
     refine zg ?_
     exact⟨rfl,⟨_,bl rfl⟩,sB,hl⟩
    refine zg ?_
    exact⟨rfl,⟨_,bl rfl⟩,sB,hl⟩
   intro q29 S1 hl
   refine zg ?_
   constructor<;>intro DA
   ·
    refine zg ?_;refine rr rfl (A9 rfl rfl (v:=AX [.int .i64 (i:Int),.int .i64 ((i:Int)+1),.int .i64 (i:Int)]) (by rfl)) ?_;refine dL hl ((Bd.mk i (i+1) i).cells) Tryz.underlying322 fun Th S1 RM hl=>?_;refine DZ hl 0 rfl rfl (by simp) rfl rfl rfl rfl rfl rfl rfl Tryz.underlying322 Tryz.underlying322 rfl rfl AB (Cj (n:=1) (cap:=1) RM rfl) rfl rfl AB (by show D.length+1≤Ae;unfold Ae;omega) ?_;intro Tf S1 hl
    obtain⟨As,rfl⟩:∃x,Tf= .slice x (D.length+1) (D.length+1):=Am.C5 (hl.gr _ Al)
    have hl:AE S [S] S1 [] [gB As (D++[Bd.mk i (i+1) i])]:=gZ hl
    refine zg ?_
    exact⟨rfl,(i:Int)+1,As,D++[Bd.mk i (i+1) i],.inr rfl,hD.push AA (Int.le_refl _) (by show(i:Int)≤i+1;omega) (Int.le_refl _) (by show(-1:Int)≤i;omega) (by show(i:Int)<_;omega),by rw[A8];omega,by rw[A8];omega,sn sE,hl⟩
   refine Ar rfl ?_
   exact⟨rfl,_,av,D,.inl rfl,hD,UE,AA,sE,hl⟩
  clear hl hD UE Qw AH;rintro Le S1 ⟨m,av,D,hm,hD,UE,Qw,AH,hl⟩;refine AK AH ?_
  refine AG rfl (HW hl 52 Value.bool ?_ rfl ?_)
  ·
   refine zg ?_;refine AZ (d:=44) rfl (fun Gz=>?_) (fun Gz=>?_)
   ·
    refine zg ?_
    exact⟨rfl,⟨_,bl rfl⟩,sB,hl⟩
   refine zg ?_
   exact⟨rfl,⟨_,bl rfl⟩,sB,hl⟩
  intro q52 S1 hl
  refine zg ?_
  constructor<;>intro h52
  ·
   refine zg ?_;refine rr rfl (A9 rfl rfl (v:=AX [.int .i64 ((i:Int)+1),.int .i64 ((i:Int)+1),.int .i64 (-1)]) (by rfl)) ?_;refine dL hl ((Bd.mk (i+1) (i+1) (-1)).cells) Tryz.underlying322 fun Th S1 RM hl=>?_;refine DZ hl 0 rfl rfl (by simp) rfl rfl rfl rfl rfl rfl rfl Tryz.underlying322 Tryz.underlying322 rfl rfl AB (Cj (n:=1) (cap:=1) RM rfl) rfl rfl AB (by show D.length+1≤Ae;unfold Ae;omega) ?_;intro Tf S1 hl
   obtain⟨As,rfl⟩:∃x,Tf= .slice x (D.length+1) (D.length+1):=Am.C5 (hl.gr _ Al)
   have hl:AE S [S] S1 [] [gB As (D++[Bd.mk (i+1) (i+1) (-1)])]:=gZ hl
   refine zg ?_
   exact⟨C.length-(i+1),AA,i+1,As,D++[Bd.mk (i+1) (i+1) (-1)],AA,rfl,hD.push AA (by show m≤(i:Int)+1;omega) (Int.le_refl _) (by show(i:Int)+1≤((i+1:Nat):Int);omega) (Int.le_refl _) (by show(-1:Int)<_;omega),by rw[A8];omega,by rw[A8];omega,sn sE,hl⟩
  refine zg ?_
  exact⟨C.length-(i+1),AA,i+1,av,D,AA,rfl,hD.up AA,UE,AA,sE,hl⟩
 have DH:i=C.length:=dF Cf
 subst DH
 refine zg ?_;refine rr rfl (A9 rfl rfl (v:=AX [.int .i64 (C.length:Int),.int .i64 (C.length:Int),.int .i64 (-1)]) (by rfl)) ?_;refine dL hl ((Bd.mk C.length C.length (-1)).cells) Tryz.underlying322 fun Th S1 RM hl=>?_;refine DZ hl 0 rfl rfl (by simp) rfl rfl rfl rfl rfl rfl rfl Tryz.underlying322 Tryz.underlying322 rfl rfl AB (Cj (n:=1) (cap:=1) RM rfl) rfl rfl AB (by show D.length+1≤Ae;unfold Ae;omega) ?_;intro Tf S1 hl
 obtain⟨As,rfl⟩:∃x,Tf= .slice x (D.length+1) (D.length+1):=Am.C5 (hl.gr _ Al)
 have hl:AE S [S] S1 [] [gB As (D++[Bd.mk C.length C.length (-1)])]:=gZ hl
 refine zg ?_
 exact y1 rfl ⟨hl.AD,As,D++[Bd.mk C.length C.length (-1)],by rw[A8],Am.ls (f:=Bd.cells) (fun _=>rfl) (by rw[←A8];exact hl.gr _ Al),hD.push AA (Int.le_refl _) (Int.le_refl _) (Int.le_refl _) (Int.le_refl _) (by show(-1:Int)<_;omega),by rw[A8];omega,by rw[A8];omega⟩
end Go.Proofs.YtmfphenhpkgidaaGreatDoor
namespace Go.Proofs.YtmfphenhpkgidaaGreatDoor
open Go.Cm Go
set_option maxRecDepth 100000
variable{S:St}
abbrev gS(av:Option Addr)(D:List Se):Gr:=Hc 328 7 Se.cells (.slice av D.length D.length) D
theorem AFx{Ts:List St}{S0 S1:St}{l:List (Nat×AF)}{av:Option Addr}{D:List Se}{x:Se}(h:AE S0 Ts S1 l [⟨.slice av (D.length+1) (D.length+1),328,7,(D.map Se.cells).flatten++x.cells,D.length+1⟩]):AE S0 Ts S1 l [gS av (D++[x])]:=by
 unfold gS
 rw[Im]
 exact h
def ABo(S':St)(n:Nat)(v:Value):Prop:=(∃e:Int,e≠0∧v=Aw [.slice none 0 0,.int .i64 e])∨∃av D,v=Aw [.slice av D.length D.length,.int .i64 0]∧eX S' (.slice av D.length D.length) D∧D.length≤2*n+1∧∀x,x∈D→OX n x
theorem AAK(p q r t k:Int)(a:Option Addr)(cap:Nat)(C:List It)(hk: -50≤k∧k≤50)(hn:C.length≤1000)(hF:BW S)(hv:Gu S (.slice a C.length cap) C):CC Tryz.prog KK 184 [EY p q r t,.int .i64 k,.slice a C.length cap] S (fun v S'=>AL S S'∧(ABo S' C.length v)):=by
 refine ce 98 Tryz.func184 fun hl=>?_;refine zg ?_;refine bL hl fun B3 S3 hl=>?_;refine zg ?_
 refine zc hl rfl (AAO p q r t k hk) ?_;rintro v S1 AM ⟨u,e,rfl⟩ hl
 refine zg ?_;refine aL hl [.int .i64 0,.int .i64 0] fun B8 S8 hl=>?_;refine sL hl 0 u.cells fun S1 hl=>?_;refine zg ?_
 constructor<;>intro DG
 ·
  refine zg ?_
  exact(z2 rfl rfl ⟨hl.AD,.inl ⟨e,by simpa using DG,rfl⟩⟩)
 refine zg ?_
 refine zc hl rfl (AN7 a cap C hn (hl.AD.3 hF) (hv.move (hl.since 0 rfl))) ?_;rintro v S1 AM ⟨e2,i2,rfl⟩ hl
 refine zg ?_
 constructor<;>intro Gy
 ·
  refine zg ?_
  exact(z2 rfl rfl ⟨hl.AD,.inl ⟨e2,by simpa using Gy,rfl⟩⟩)
 refine zg ?_
 refine zc hl rfl (AN8 k a cap C hn (hl.AD.3 hF) (hv.move (hl.since 0 rfl))) ?_;rintro v S1 AM ⟨ab,D,rfl,hB,hD,UE,Qw⟩ hl
 have hl:=hl.mark
 refine zA ?_;refine zS ?_;refine AG rfl ?_;refine zS ?_;refine Az rfl ?_
 have hl:=hl.D2 (g:=gS none []) (.inl ⟨rfl,rfl,rfl⟩)
 refine AK (L':=[(12,.int .i64 0),(11,.slice none 0 0),(10,.slice ab D.length D.length),(8,ptrTo B8 0),(7,.int .i64 0),(6,.slice none 0 0),(2,.slice a C.length cap)]) sE ?_
 refine A2 rfl (fun m Le S'=>∃(i:Nat) (av:Option Addr) (O:List Se),i+1≤D.length∧m=D.length-i∧O.length=i∧(∀x,x∈O→OX C.length x)∧Af [(12,.int .i64 (i:Int)),(11,.slice av O.length O.length),(10,.slice ab D.length D.length),(8,ptrTo B8 0),(7,.int .i64 0),(6,.slice none 0 0),(2,.slice a C.length cap)] Le∧AE S [S1,S] S' [(B8,.cells u.cells 103 false true []),(B3,.cells [.int .i64 p,.int .i64 q,.int .i64 r,.int .i64 t] 51 false true [])] [gS av O]) ?_ (m:=D.length) ⟨0,none,[],AA,AA,rfl,fun x hx=>(List.not_mem_nil hx).elim,sE,hl⟩
 clear hl;rintro m Le S' ⟨i,av,O,hi,rfl,hO,BI,AH,hl⟩;refine AK AH ?_
 have hB:=hB.move (hl.since 0 rfl)
 refine zg ?_
 constructor<;>intro DO
 ·
  have AN:i+1<D.length:=dT DO
  obtain⟨x,hx⟩:=Ad (show i<D.length by omega)
  obtain⟨y,hy⟩:=Ad AN
  have IH:=hD.b x (BV hx)
  have Ug:=hD.b y (BV hy)
  have RS:x.t≤y.f:=by
   have h:=hD.p
   rw[List.pairwise_iff_getElem]at h
   rw[CE]at hx hy
   obtain⟨h1,e1⟩:=List.getElem?_eq_some_iff.1 hx
   obtain⟨h2,e2⟩:=List.getElem?_eq_some_iff.1 hy
   have:=h i (i+1) h1 h2 AA
   rw[e1,e2]at this
   exact this
  have hl:=hl.mark
  refine zg ?_;refine BC (idx:=[0,1,2,3,4,5,6,7,8,9,10,11,12,13,14,15,17,18,19,20,21,22,24,25,26,27,28,30,16,23,29,31]) rfl AB AB ?_
  obtain⟨b1,o1,BF,ha,_,AQ,Aa,F0⟩:=hB.sc hx hy
  refine zg ?_;refine KZ hF hl rfl rfl rfl rfl rfl (z:=[.int .i64 0,.int .i64 0,.int .i64 0,.int .i64 0,.bool false,.int .i64 0,.int .i64 0]) AB ?_;intro JH Y1 hl
  refine zp hl rfl (AAP a cap C x hn (hl.AD.3 hF) AA (hv.move (hl.since 2 rfl))) ?_;rintro v S3 AM ⟨r1,rfl,RL,AG0⟩ hl;refine⟨zt,?_⟩
  refine zp hl rfl (AAP a cap C y hn (hl.AD.3 hF) AA (hv.move (hl.since 2 rfl))) ?_;rintro v S4 ED ⟨r2,rfl,UW,AG6⟩ hl;refine⟨zt,?_⟩
  obtain⟨s,hs⟩:∃s:Se,s=⟨x.t,y.f,r1,r2,((i:Int)+2==(D.length:Int)),⟨0,0⟩⟩:=⟨_,rfl⟩
  have hsc:[Value.int .i64 x.t,.int .i64 y.f,.int .i64 r1,.int .i64 r2,.bool ((i:Int)+2==(D.length:Int)),.int .i64 0,.int .i64 0]=s.cells:=by rw[hs];rfl
  have Fz:OX C.length s:=by rw[hs];exact⟨by show 0≤x.t;omega,⟨RS,by show y.f≤_;omega⟩,⟨RL,AG0⟩,UW,AG6⟩
  refine pr rfl (A9 rfl rfl (v:=AX s.cells) (by rw[←hsc];rfl)) ?_
  refine pL hl 0 s.cells (h:=fun S5 hl=>⟨zt,?_⟩)
  clear ha AQ Aa F0
  refine zg ?_
  refine zc hl rfl (AN9 u a cap C s hn (hl.AD.3 hF) Fz (hv.move (hl.since 2 rfl))) ?_;rintro v S6 Cn ⟨t2,e,rfl,he⟩ hl
  refine zg ?_;refine aL hl [.int .i64 0,.int .i64 0] fun Hw Vz hl=>?_;refine sL hl 0 t2.cells fun S7 hl=>?_;refine zg ?_
  constructor<;>intro gw
  ·
   have e0:e≠0:=by simpa using gw
   refine zg ?_
   exact Ai (AR (Ai (Bg (AR ((z2 rfl rfl ⟨hl.AD,.inl ⟨e,e0,rfl⟩⟩))))))
  refine Ar rfl ?_;refine AG rfl ?_;refine AG rfl (HW hl 90 Value.bool ?_ rfl ?_)
  ·
   refine zg ?_;refine rr rfl (BY rfl rfl rfl) ?_;refine zg ?_;refine AZ (d:=86) rfl (fun h86=>?_) (fun h86=>?_)
   ·
    refine zg ?_
    exact⟨rfl,⟨_,bl rfl⟩,sB,hl⟩
   refine zg ?_
   exact⟨rfl,⟨_,bl rfl⟩,sB,hl⟩
  intro q90 S8 hl
  refine zg ?_
  constructor<;>intro Z7
  ·
   refine zg ?_
   exact Ai (AR (Ai (Bg (AR ((z2 rfl rfl ⟨hl.AD,.inl ⟨14,by decide,rfl⟩⟩))))))
  have vP:OX C.length {s with ct:=t2}:=⟨Fz.f,Fz.t,Fz.l,Fz.r⟩
  obtain⟨w,hw⟩:∃w:Se,w= {s with ct:=t2}:=⟨_,rfl⟩
  rw[←hw]at vP
  refine zg ?_;refine CN hl 1 rfl rfl rfl rfl rfl rfl rfl AB (c':=w.cells) (by rw[hw];rfl) ?_
  intro S9 hl
  refine zg ?_;refine dL hl w.cells Tryz.underlying268 fun B95 GB AHL hl=>?_;refine DZ hl 0 rfl rfl (by simp) rfl rfl rfl rfl rfl rfl rfl Tryz.underlying268 Tryz.underlying268 rfl rfl AB (Cj (n:=1) (cap:=1) (new:=w.cells) AHL rfl) rfl rfl AB (by show O.length+1≤Ae;unfold Ae;omega) ?_;intro v96 Km hl
  obtain⟨As,rfl⟩:∃x,v96= .slice x (O.length+1) (O.length+1):=Am.C5 (hl.gr _ Al)
  refine zg ?_
  refine⟨D.length-(i+1),AA,i+1,As,O++[w],AA,rfl,by rw[A8,hO],fun x hx=>?_,⟨rfl,by rw[A8];rfl,rfl,rfl,rfl,rfl,rfl,trivial⟩,AFx (hl.tail.tail.marks (Us:=[S1,S]) (fun T hT=>BQ hT))⟩
  rcases List.mem_append.1 hx with h|h
  ·exact BI x h
  rw[List.mem_singleton.1 h]
  exact vP
 refine zg ?_
 exact y2 rfl rfl ⟨hl.AD,.inr ⟨av,O,rfl,Am.ls (f:=Se.cells) (fun _=>rfl) (hl.gr _ Al),AA,BI⟩⟩
end Go.Proofs.YtmfphenhpkgidaaGreatDoor
namespace Go.Proofs.YtmfphenhpkgidaaGreatDoor
open Go.Cm Go
set_option maxRecDepth 100000
variable{S:St}
def ABZ(S S':St)(n:Nat)(v:Value):Prop:=(AL S S'∧∃e:Int,e≠0∧v=Aw [.pointer none,.int .i64 e])∨∃Sm B x,v=Aw [ptrTo B 0,.int .i64 0]∧AL S Sm∧x.Fit∧x.L.length=n∧x.M= []∧x.Old Sm∧Kp Sm S' B x
set_option maxHeartbeats 4000000 in
theorem AAQ(p q r t k:Int)(a:Option Addr)(cap:Nat)(C:List It)(hk: -50≤k∧k≤50)(hn:C.length≤1000)(hF:BW S)(hv:Gu S (.slice a C.length cap) C):CC Tryz.prog KK 232 [EY p q r t,.int .i64 k,.slice a C.length cap] S (fun v S'=>AL S S'∧(ABZ S S' C.length v)):=by
 refine ce 37 Tryz.func232 fun hl=>?_;refine zg ?_;refine bL hl fun B3 S3 hl=>?_;refine zg ?_
 refine zc hl rfl (AAK p q r t k a cap C hk hn (hl.AD.3 hF) (hv.move (hl.since 0 rfl))) ?_;rintro v S1 AM hR hl
 rcases hR with ⟨e,he,rfl⟩|⟨ag,G,rfl,hG,Wm,Qx⟩
 ·
  refine zg ?_
  constructor<;>intro Cq
  ·
   refine zg ?_
   exact(z2 rfl rfl ⟨hl.AD,.inl ⟨hl.AD,e,he,rfl⟩⟩)
  exact absurd (by simpa using Cq) he
 have hl:=hl.mark
 refine zg ?_
 refine zc hl rfl (AAO p q r t k hk) ?_;rintro v S4 ED ⟨u,e,rfl⟩ hl
 have Hj:=hl.AD
 have JU:=hl.AD.3 hF
 have hG:=hG.move (hl.since 0 rfl)
 have vS:=hv.move (hl.since 1 rfl)
 clear hl
 have hl:=BE.start S4
 refine zg ?_;refine aL hl [.int .i64 0,.int .i64 0] fun Hv GB hl=>?_;refine sL hl 0 u.cells fun S5 hl=>?_;refine zg ?_;refine BC (idx:=[0,1,2,3,4,6,5,7,8,9,10]) rfl AB AB ?_;refine zg ?_;refine nM JU hl rfl rfl rfl rfl rfl Tryz.underlying208 rfl (c:=[]) AB ?_;intro Yt S6 hl
 have hO:E8 (.slice (some ⟨Yt,0,none⟩) 0 0) [] [(Yt,.cells [] 266 true true [])]:= .inr ⟨Yt,[],rfl,rfl,rfl,fun _ h=>(List.not_mem_nil h).elim⟩
 have hl:AE S4 [S4] S6 ([]++([(Yt,.cells [] 266 true true [])]++[(Hv,.cells u.cells 103 false true [])])) []:=hl
 refine zg ?_;refine AKM hl hO rfl rfl rfl rfl rfl rfl rfl Tryz.underlying208 Tryz.underlying208 rfl rfl AB (vS.move (hl.since 0 rfl)).cells (HF (f:=It.cells) (z:=12) (fun _=>rfl) _) (Zt (f:=It.cells) (fun _=>rfl) _) AB (by show 0+C.length≤Ae;unfold Ae;omega) ?_;intro v33 fr S7 Ei hl
 have hl:AE S4 [S4] S7 ([(Hv,.cells u.cells 103 false true [])]++(fr++[])) []:=hl.perm (by rw[List.nil_append,List.append_nil];exact List.perm_append_comm)
 refine⟨zt,?_⟩
 obtain⟨an,rfl⟩:=Ei.is
 have e0:([]:List It).length+C.length=C.length:=Nat.zero_add _
 rw[e0]at Ei ⊢
 have Ei:E8 (.slice an C.length C.length) C fr:=Ei
 obtain⟨x,hx⟩:∃x:D8,x=⟨u,k,a,cap,C,an,C,ag,G.length,G,none,[]⟩:=⟨_,rfl⟩
 have aa:[Value.int .i64 u.n,Value.int .i64 u.d,.int .i64 k,.slice a C.length cap,.slice an C.length C.length,.slice ag G.length G.length,.slice none 0 0]=x.cells:=by rw[hx];rfl
 refine pr rfl (A9 rfl rfl (v:=AX x.cells) (by rw[←aa];rfl)) ?_;refine AKN JU hl rfl rfl rfl rfl rfl rfl ?_;intro Th S8 hl;refine zg ?_
 have hl:AE S4 [S4] S8 ([(Th,x.Bn)]++(fr++([]++[]))) []:=hl.sub (List.Sublist.cons_cons _ (List.sublist_cons_self ..))
 exact y2 rfl rfl ⟨Hj.trans hl.AD,.inr ⟨S4,Th,x,rfl,Hj,by rw[hx];exact⟨hk,rfl,hn,by show G.length≤2001;omega,Qx⟩,by rw[hx],by rw[hx],by rw[hx];exact⟨vS,hG⟩,fr,[],by rw[hx];exact Ei,by rw[hx];exact .inl ⟨rfl,rfl,rfl,rfl⟩,hl⟩⟩
end Go.Proofs.YtmfphenhpkgidaaGreatDoor
namespace Go.Proofs.YtmfphenhpkgidaaGreatDoor
open Go.Cm Go
set_option maxRecDepth 100000
variable{S:St}
theorem Ya{Sb S:St}{b i o n:Nat}{N:List It}{q fr l:List (Nat×AF)}{x y:It}{v:Ti}(hO:E8 (.slice (some ⟨b,0,none⟩) n n) N fr)(hL:N.length=n)(hx:nth N i=some x)(hs:Bq o v.cells x.cells=some y.cells)(hl:AE Sb [Sb] S (q++(fr++l)) []) :
  ∃S' Cs,Fs Tryz.prog 103 (ptrTo b (0+i*12+o)) v.v S=some S'∧E8 (.slice (some ⟨b,0,none⟩) n n) (N.set i y) Cs∧AE Sb [Sb] S' (q++(Cs++l)) []:=hO.set hL hx hs hl
theorem Xg{α:Type}{l:List α}{i:Nat}{x y:α}(h:nth l i=some x):nth (l.set i y) i=some y:=by rw[CE,List.getElem?_set_self (I5 h)]
theorem OW.ne{a:Option Addr}{e:TypeId}{z m:Nat}{c:List Value}{fr:List (Nat×AF)}(h:OW (.slice a m m) e z c m fr)(hm:0<m):∃b,a=some ⟨b,0,none⟩:=by
 rcases h with ⟨_,_,h,_⟩|⟨b,dd,h,_,_⟩
 ·omega
 cases h
 exact⟨b,rfl⟩
theorem E8.ld{b n i:Nat}{L:List It}{fr l:List (Nat×AF)}{Sb S:St}{Ts:List St}{gs:List Gr}{x:It}(hO:E8 (.slice (some ⟨b,0,none⟩) n n) L fr)(hL:L.length=n)(hx:nth L i=some x)(hl:AE Sb Ts S l gs)(hm:∀p,p∈fr→p∈l):∃cs,DW S b 266 cs∧takeN 12 (CH (0+i*12) cs)=some x.cells:=by
 subst hL
 obtain⟨b1,o1,BF,ha,_,AQ,Aa⟩:=(OW.at_ (f:=It.cells) (fun _=>rfl) hO hl hm).elem hx
 cases ha
 exact⟨_,AQ,Aa⟩
def ABb(Sb S':St)(B:Nat)(x:D8)(v:Value):Prop:= ∃(R:Bool) (y:D8),v= .bool R∧Kp Sb S' B y∧y.Fit∧y.Old Sb∧y.L=x.L∧y.G=x.G∧y.M.length=x.M.length+bif R then 1 else 0
set_option maxHeartbeats 8000000 in
theorem AAR{Sb:St}(B:Nat)(x:D8)(c:Int)(hm:x.M.length<x.G.length)(hF:BW Sb)(hx:x.Fit)(ho:x.Old Sb)(BL:Kp Sb S B x):CC Tryz.prog KK 233 [ptrTo B 0,.int .i64 c] S (fun v S'=>ABb Sb S' B x v):=by
 refine ce 163 Tryz.func233 fun _=>?_
 have BI:=BL.ok ho
 have hat:=BL.at_
 obtain⟨fN,fM,hN,hM,hl⟩:=BL
 obtain⟨s,hs⟩:=Ad hm
 have Fz:=hx.s s (BV hs)
 have aN:=hx.l
 have Ja:=hx.g
 have Cb:=hx.n
 refine zg ?_
 refine zc hl rfl (AAS B x hm (hl.AD.3 hF) hat hx BI) ?_;rintro v S1 AM ⟨av,D,rfl,hD,MC,g9⟩ hl
 have g9:=g9 s hs
 refine zg ?_;refine AK (L':=[(7,.int .i64 0),(6,.bool false),(5,.slice av D.length D.length),(4,.bool false),(0,ptrTo B 0),(1,.int .i64 c)]) sE ?_
 refine A2 rfl (fun m Le S'=>∃(i:Nat) (Q:Bool),i≤D.length∧m=D.length-i∧S'=S1∧(Q=true→c∈D)∧Af [(7,.int .i64 (i:Int)),(6,.bool Q),(5,.slice av D.length D.length),(4,.bool false),(0,ptrTo B 0),(1,.int .i64 c)] Le) ?_ (m:=D.length) ⟨0,false,AA,AA,rfl,nofun,sE⟩
 rintro m Le S' ⟨i,Q,hi,rfl,rfl,hQ,AH⟩;refine AK AH ?_
 refine zg ?_
 constructor<;>intro Dl
 ·
  have AN:i<D.length:=dT Dl
  obtain⟨y,hy⟩:=Ad AN
  obtain⟨b1,o1,BF,ha,_,AQ,Aa⟩:=hD.elem hy
  refine zg ?_;refine AZ (d:=21) rfl (fun Bf=>?_) (fun Bf=>?_)
  ·
   refine zg ?_
   exact⟨D.length-(i+1),AA,i+1,true,AA,rfl,rfl,fun _=>hQ Bf,sE⟩
  refine zg ?_
  exact⟨D.length-(i+1),AA,i+1,_,AA,rfl,rfl,fun h=>by rw[←eq_of_beq h];exact BV hy,⟨rfl,rfl,rfl,rfl,rfl,rfl,trivial⟩⟩
 clear hi AH
 refine zg ?_;refine rr rfl (BY rfl rfl rfl) ?_;refine zg ?_
 constructor<;>intro CJ
 ·
  refine zg ?_
  exact(z1 rfl ⟨false,x,rfl,⟨fN,fM,hN,hM,hl⟩,hx,ho,rfl,rfl,rfl⟩)
 have hc:=g9 c (hQ (by simpa using CJ))
 obtain⟨b1,o1,BF,ha,_,AQ,Aa⟩:=(ho.g.move (hl.since 0 rfl)).elem hs
 refine zg ?_;refine BC (idx:=[0,1,2,3,4,5,6,7,8,9,10,11,12]) rfl AB AB ?_;refine zg ?_;refine KZ hF hl rfl rfl rfl rfl rfl (z:=[.int .i64 0,.int .i64 0,.int .i64 0,.int .i64 0,.bool false,.int .i64 0,.int .i64 0]) AB ?_;intro B8 S8 hl
 refine pL hl 0 s.cells (h:=fun S9 hl=>⟨zt,?_⟩)
 clear ha AQ Aa
 have hl:AE Sb [Sb] S9 ([(B8,.cells s.cells 328 false true []),(B,x.Bn)]++(fN++(fM++[]))) []:=hl
 obtain⟨N,CK,hN⟩:∃N:List It,N.length=x.N.length∧E8 (.slice x.an x.N.length x.N.length) N fN:=⟨x.N,rfl,hN⟩
 refine zA ?_;refine AG rfl (Ex (fun Le S'=>∃(N:List It) (fN:List (Nat×AF)),N.length=x.N.length∧Af [(8,ptrTo B8 0),(4,.bool false),(0,ptrTo B 0),(1,.int .i64 c)] Le∧E8 (.slice x.an x.N.length x.N.length) N fN∧AE Sb [Sb] S' ([(B8,.cells s.cells 328 false true []),(B,x.Bn)]++(fN++(fM++[]))) []) ?_ ?_)
 ·
  refine AG rfl (JF 47 (fun v S'=>∃Q:Bool,v= .bool Q∧(Q=true→c=1∨c=3)∧AE Sb [Sb] S' ([(B8,.cells s.cells 328 false true []),(B,x.Bn)]++(fN++(fM++[]))) []) ?_ ?_)
  ·
   refine zg ?_;refine AZ (d:=44) rfl (fun Gz=>?_) (fun Gz=>?_)
   ·
    refine zg ?_
    exact⟨rfl,_,bl rfl,sB,true,rfl,fun _=> .inl (eq_of_beq Gz),hl⟩
   refine zg ?_
   exact⟨rfl,_,bl rfl,sB,_,rfl,fun h=> .inr (eq_of_beq h),hl⟩
  rintro v S2 ⟨Q2,rfl,iF,hl⟩
  refine zg ?_
  constructor<;>intro K3
  ·
   have h0:=hc.1 (iF K3)
   have PC:=Fz.l.2
   have RC:(s.l).toNat<N.length:=by omega
   have Wz:0<N.length:=by omega
   obtain⟨bN,O5⟩:∃b,x.an=some ⟨b,0,none⟩:=by have h:=hN;rw[←CK]at h;exact OW.ne h Wz
   rw[O5]at hN
   obtain⟨y,hy⟩:=Ad RC
   obtain⟨cs,AQ,Aa⟩:=E8.ld hN CK hy hl Jg
   refine zg ?_;refine BC (idx:=[0,1,2,3,4,5,6,7]) rfl AB AB ?_;refine zg ?_;refine BC (idx:=[0,1,2,3,4,5,6,7,8,9,10,11,12,13,14,15]) rfl AB AB ?_;refine zg ?_
   refine zp hl rfl (c5 y.du x.u) ?_;rintro v S3 Cn ⟨t2,e,rfl,he⟩ hl;refine⟨zt,?_⟩
   refine zg ?_
   obtain⟨S4,Zq,Cc,EW,CY⟩:=Ya hN CK hy (o:=6) (v:=t2) (y:={y with du:=t2}) rfl hl
   refine R3 rfl rfl rfl rfl rfl rfl Cc zt ?_
   clear AQ Aa hl Cc hN he
   have hy:=Xg (y:={y with du:=t2}) hy
   have CK:(N.set s.l.toNat {y with du:=t2}).length=x.N.length:=List.length_set.trans CK
   generalize ({y with du:=t2}:It)=y at hy EW CK
   generalize N.set s.l.toNat y=N at hy EW CK
   have hN:=EW
   have hl:=CY
   obtain⟨cs,AQ,Aa⟩:=E8.ld hN CK hy hl Jg
   clear EW CY
   refine zg ?_;refine BC (idx:=[0,1,2,3,4,5,6,7,8,9,10,11,12,13,14,15]) rfl AB AB ?_;refine zg ?_
   refine zp hl rfl (OI y.af x.u) ?_;rintro v S3 Cn ⟨t2,e,rfl,he⟩ hl;refine⟨zt,?_⟩
   refine zg ?_
   obtain⟨S4,Zq,Cc,EW,CY⟩:=Ya hN CK hy (o:=10) (v:=t2) (y:={y with af:=t2}) rfl hl
   refine R3 rfl rfl rfl rfl rfl rfl Cc zt ?_
   clear AQ Aa hl Cc hN he
   have hy:=Xg (y:={y with af:=t2}) hy
   have CK:(N.set s.l.toNat {y with af:=t2}).length=x.N.length:=List.length_set.trans CK
   generalize ({y with af:=t2}:It)=y at hy EW CK
   generalize N.set s.l.toNat y=N at hy EW CK
   have hN:=EW
   have hl:=CY
   obtain⟨cs,AQ,Aa⟩:=E8.ld hN CK hy hl Jg
   clear EW CY
   refine zg ?_
   exact⟨rfl,N,_,CK,sE,by rw[O5];exact hN,hl⟩
  refine Ar rfl ?_
  exact⟨rfl,N,fN,CK,sE,hN,hl⟩
 clear hl hN CK
 rintro Le S2 ⟨N,fN,CK,AH,hN,hl⟩;refine AK AH ?_;clear AH
 refine AG rfl (Ex (fun Le S'=>∃(N:List It) (fN:List (Nat×AF)),N.length=x.N.length∧Af [(8,ptrTo B8 0),(4,.bool false),(0,ptrTo B 0),(1,.int .i64 c)] Le∧E8 (.slice x.an x.N.length x.N.length) N fN∧AE Sb [Sb] S' ([(B8,.cells s.cells 328 false true []),(B,x.Bn)]++(fN++(fM++[]))) []) ?_ ?_)
 ·
  refine AG rfl (JF 90 (fun v S'=>∃Q:Bool,v= .bool Q∧(Q=true→c=2∨c=3)∧AE Sb [Sb] S' ([(B8,.cells s.cells 328 false true []),(B,x.Bn)]++(fN++(fM++[]))) []) ?_ ?_)
  ·
   refine zg ?_;refine AZ (d:=87) rfl (fun Gz=>?_) (fun Gz=>?_)
   ·
    refine zg ?_
    exact⟨rfl,_,bl rfl,sB,true,rfl,fun _=> .inl (eq_of_beq Gz),hl⟩
   refine zg ?_
   exact⟨rfl,_,bl rfl,sB,_,rfl,fun h=> .inr (eq_of_beq h),hl⟩
  rintro v S2 ⟨Q2,rfl,iF,hl⟩
  refine zg ?_
  constructor<;>intro K3
  ·
   have h0:=hc.2.1 (iF K3)
   have PC:=Fz.r.2
   have RC:(s.r).toNat<N.length:=by omega
   have Wz:0<N.length:=by omega
   obtain⟨bN,O5⟩:∃b,x.an=some ⟨b,0,none⟩:=by have h:=hN;rw[←CK]at h;exact OW.ne h Wz
   rw[O5]at hN
   obtain⟨y,hy⟩:=Ad RC
   obtain⟨cs,AQ,Aa⟩:=E8.ld hN CK hy hl Jg
   refine zg ?_;refine BC (idx:=[0,1,2,3,4,5,6,7]) rfl AB AB ?_;refine zg ?_;refine BC (idx:=[0,1,2,3,4,5,6,7,8,9,10,11,12,13,14,15]) rfl AB AB ?_;refine zg ?_
   refine zp hl rfl (c5 y.du x.u) ?_;rintro v S3 Cn ⟨t2,e,rfl,he⟩ hl;refine⟨zt,?_⟩
   refine zg ?_
   obtain⟨S4,Zq,Cc,EW,CY⟩:=Ya hN CK hy (o:=6) (v:=t2) (y:={y with du:=t2}) rfl hl
   refine R3 rfl rfl rfl rfl rfl rfl Cc zt ?_
   clear AQ Aa hl Cc hN he
   have hy:=Xg (y:={y with du:=t2}) hy
   have CK:(N.set s.r.toNat {y with du:=t2}).length=x.N.length:=List.length_set.trans CK
   generalize ({y with du:=t2}:It)=y at hy EW CK
   generalize N.set s.r.toNat y=N at hy EW CK
   have hN:=EW
   have hl:=CY
   obtain⟨cs,AQ,Aa⟩:=E8.ld hN CK hy hl Jg
   clear EW CY
   refine zg ?_;refine BC (idx:=[0,1,2,3,4,5,6,7,8,9,10,11,12,13,14,15]) rfl AB AB ?_;refine zg ?_
   refine zp hl rfl (OI y.be x.u) ?_;rintro v S3 Cn ⟨t2,e,rfl,he⟩ hl;refine⟨zt,?_⟩
   refine zg ?_
   obtain⟨S4,Zq,Cc,EW,CY⟩:=Ya hN CK hy (o:=8) (v:=t2) (y:={y with be:=t2}) rfl hl
   refine R3 rfl rfl rfl rfl rfl rfl Cc zt ?_
   clear AQ Aa hl Cc hN he
   have hy:=Xg (y:={y with be:=t2}) hy
   have CK:(N.set s.r.toNat {y with be:=t2}).length=x.N.length:=List.length_set.trans CK
   generalize ({y with be:=t2}:It)=y at hy EW CK
   generalize N.set s.r.toNat y=N at hy EW CK
   have hN:=EW
   have hl:=CY
   obtain⟨cs,AQ,Aa⟩:=E8.ld hN CK hy hl Jg
   clear EW CY
   refine zg ?_
   exact⟨rfl,N,_,CK,sE,by rw[O5];exact hN,hl⟩
  refine Ar rfl ?_
  exact⟨rfl,N,fN,CK,sE,hN,hl⟩
 clear hl hN CK
 rintro Le S2 ⟨N,fN,CK,AH,hN,hl⟩;refine AK AH ?_;clear AH
 refine AG rfl (Ex (fun Le S'=>∃(N:List It) (fN:List (Nat×AF)),N.length=x.N.length∧Af [(8,ptrTo B8 0),(4,.bool false),(0,ptrTo B 0),(1,.int .i64 c)] Le∧E8 (.slice x.an x.N.length x.N.length) N fN∧AE Sb [Sb] S' ([(B8,.cells s.cells 328 false true []),(B,x.Bn)]++(fN++(fM++[]))) []) ?_ ?_)
 ·
  refine zg ?_
  constructor<;>intro AF9
  ·
   have h0:=hc.2.2 (eq_of_beq AF9)
   have hsf:=Fz.f
   have PC:=Fz.t
   have RC:(s.t-1).toNat<N.length:=by omega
   have Wz:0<N.length:=by omega
   obtain⟨bN,O5⟩:∃b,x.an=some ⟨b,0,none⟩:=by have h:=hN;rw[←CK]at h;exact OW.ne h Wz
   rw[O5]at hN
   obtain⟨y,hy⟩:=Ad RC
   obtain⟨cs,AQ,Aa⟩:=E8.ld hN CK hy hl Jg
   refine zg ?_;refine BC (idx:=[0,1,2,3,4,5,6,7,8]) rfl AB AB ?_;refine zg ?_;refine BC (idx:=[0,1,2,3,4,5,6,7,8,9,10,11,12,13,14,15]) rfl AB AB ?_;refine zg ?_
   refine zp hl rfl (OI y.du y.du) ?_;rintro v S3 Cn ⟨t2,e,rfl,he⟩ hl;refine⟨zt,?_⟩
   refine zg ?_
   obtain⟨S4,Zq,Cc,EW,CY⟩:=Ya hN CK hy (o:=6) (v:=t2) (y:={y with du:=t2}) rfl hl
   refine R3 rfl rfl rfl rfl rfl rfl Cc zt ?_
   clear AQ Aa hl Cc hN he
   have hy:=Xg (y:={y with du:=t2}) hy
   have CK:(N.set (s.t-1).toNat {y with du:=t2}).length=x.N.length:=List.length_set.trans CK
   generalize ({y with du:=t2}:It)=y at hy EW CK
   generalize N.set (s.t-1).toNat y=N at hy EW CK
   have hN:=EW
   have hl:=CY
   obtain⟨cs,AQ,Aa⟩:=E8.ld hN CK hy hl Jg
   clear EW CY
   refine zg ?_
   exact⟨rfl,N,_,CK,sE,by rw[O5];exact hN,hl⟩
  refine zg ?_
  exact⟨rfl,N,fN,CK,sE,hN,hl⟩
 clear hl hN CK
 rintro Le S2 ⟨N,fN,CK,AH,hN,hl⟩;refine AK AH ?_;clear AH
 refine zg ?_;refine dL hl (ic c) Tryz.underlying38 fun AS6 S4 AGx hl=>?_
 have hl:AE Sb [Sb] S4 (([(B8,.cells s.cells 328 false true []),(B,x.Bn)]++fN)++(fM++[])) []:=hl.perm (.of_eq (List.append_assoc ..).symm)
 refine VC hl hM rfl rfl rfl rfl rfl rfl rfl Tryz.underlying38 Tryz.underlying38 rfl rfl (by decide) AB (Cj (n:=1) (cap:=1) (new:=ic c) AGx rfl) rfl rfl AB (by show x.M.length+1≤Ae;unfold Ae;omega) ?_;intro ATX Zp S5 UH hl
 obtain⟨qY,rfl⟩:=UH.is
 have hl:AE Sb [Sb] S5 ([(B8,.cells s.cells 328 false true []),(B,x.Bn)]++(fN++(Zp++[]))) []:=hl.perm (.of_eq (List.append_assoc ..))
 have UH:Ic (.slice qY (x.M++[c]).length (x.M++[c]).length) (x.M++[c]) Zp:=OW.push (f:=ic) UH
 have ur:(x.M++[c]).length=x.M.length+1:=A8 _ _
 rw[←ur]
 obtain⟨y,hy⟩:∃y:D8,y= {x with N:=N,am:=qY,M:=x.M++[c]}:=⟨_,rfl⟩
 refine zg ?_;refine CN hl 1 rfl rfl rfl rfl rfl rfl rfl AB (c':=y.cells) (by rw[hy];unfold D8.cells;simp only[CK];rfl) ?_
 intro S6 hl
 refine zg ?_
 have hl:AE Sb [Sb] S6 ((B8,.cells s.cells 328 false true [])::([(B,y.Bn)]++(fN++(Zp++[])))) []:=hl
 exact y1 rfl ⟨true,y,rfl,⟨fN,Zp,by rw[hy];show E8 (.slice x.an N.length N.length) N fN;rw[CK];exact hN,by rw[hy];exact UH,hl.tail⟩,by rw[hy];exact⟨hx.k,CK.trans hx.n,hx.l,hx.g,hx.s⟩,by rw[hy];exact⟨ho.l,ho.g⟩,by rw[hy],by rw[hy],by rw[hy];exact ur⟩
end Go.Proofs.YtmfphenhpkgidaaGreatDoor

/-
  source.Check.
-/
import Derived.Test.YtmfphenhpkgidaaGreatDoorSmA
import Derived.Test.YtmfphenhpkgidaaGreatDoorSy2
import Derived.Test.YtmfphenhpkgidaaGreatDoorSy1
namespace Go.Proofs.YtmfphenhpkgidaaGreatDoor
open Go.Cm Go
set_option maxRecDepth 100000
variable{S:St}
theorem YO{pre r:List Sg}{y:Sg}(h1:(one y !=0)=false)(h2:decide (y∈pre)=false):Fp pre (y::r)=Fp (pre++[y]) r:=by
 rw[Fp,h1,h2];rfl
theorem z'{pre r:List Sg}{y:Sg}(h1:(one y !=0)=true):Fp pre (y::r)=one y:=by
 rw[Fp,h1];rfl
theorem z9{pre r:List Sg}{y:Sg}(h1:(one y !=0)=false)(h2:decide (y∈pre)=true):Fp pre (y::r)=10:=by
 rw[Fp,h1,h2];rfl
theorem AAn{x:AP}{r:List AP}{i:Nat}(h:G8 x=true):F9 (x::r) i=(3,(i:Int)):=by
 rw[F9,h];rfl
theorem oH{x:AP}{r:List AP}{i:Nat}(h:G8 x=false){e:Int}(he:Fp [] x.AT=e)(h0:(e !=0)=true):F9 (x::r) i=(e,(i:Int)):=by
 rw[F9,h,he,h0];rfl
theorem oI{x:AP}{r:List AP}{i:Nat}(h:G8 x=false)(he:Fp [] x.AT=0):F9 (x::r) i=F9 r (i+1):=by
 rw[F9,h,he];rfl
theorem FK{a b:Int}{p:Int×Int}(h:(a,b)=p):Aw [.int .i64 a,.int .i64 b]=Aw [.int .i64 p.1,.int .i64 p.2]:=by subst h;rfl
noncomputable def c9:Code:=Tryz.f9.body.getD .skip
theorem AAl(nm:ByteArray)(a:Option Addr)(cap:Nat)(L:List AP)(hn:L.length≤1000)(hs:∀x,x∈L→x.AT.length≤1000)(hG:Gl S)(hv:EG S (.slice a L.length cap) L):CC Tryz.prog KK 9 [AX [.string nm,.slice a L.length cap]] S (fun v S'=>AL S S'∧v=Aw [.int .i64 (DF nm.data.toList L).1,.int .i64 (DF nm.data.toList L).2]):=by
 refine Ce (c:=c9) (n:=57) Tryz.func9 rfl rfl rfl AB rfl rfl ?_
 have hl:=BE.start S
 refine zg ?_;refine bL hl fun B1 S1 hl=>?_;refine zg ?_
 refine zc hl rfl (AAa nm) ?_;rintro v S1 AM rfl hl
 refine rr rfl (BY rfl rfl rfl) ?_;refine zg ?_
 constructor<;>intro Cf
 ·
  refine zg ?_
  exact(z2 rfl rfl ⟨hl.AD,FK (by unfold DF;rw[Cf];rfl)⟩)
 refine zg ?_
 constructor<;>intro Bt
 ·
  refine zg ?_
  exact(z2 rfl rfl ⟨hl.AD,FK (by unfold DF;rw[Cf,Bt];rfl)⟩)
 refine Ar rfl ?_;refine AG rfl ?_;refine zS ?_;refine Az rfl ?_
 -- LOOP
 have Cz:DF nm.data.toList L=F9 L 0:=by unfold DF;rw[Cf,Bt];rfl
 refine AK (L':=[(20,.int .i64 0),(19,.int .i64 L.length),(18,.slice a L.length cap),(1,ptrTo B1 0)]) sE ?_
 refine A2 rfl (fun m Le S'=>∃i:Nat,i≤L.length∧m=L.length-i∧Af [(20,.int .i64 (i:Int)),(19,.int .i64 L.length),(18,.slice a L.length cap),(1,ptrTo B1 0)] Le∧F9 (L.drop i) i=F9 L 0∧BE S [S] S' [(B1,.cells [.string nm,.slice a L.length cap] 24 false true [])]) ?_ (m:=L.length) ⟨0,AA,rfl,sE,rfl,hl⟩
 clear hl;rintro m Le S' ⟨i,hi,rfl,AH,DI,hl⟩;refine AK AH ?_
 refine zg ?_
 constructor<;>intro Bf
 ·
  have AN:i<L.length:=dT Bf
  obtain⟨x,hx⟩:=Ad AN
  obtain⟨b,o,cs,a2,Bv,rfl,AQ,Aa,Fm⟩:=hv.elem hx
  have FH:x.AT.length≤1000:=hs x (BV hx)
  refine zg ?_;refine aL hl [.slice none 0 0,.bool false] fun B5 S5 hl=>?_;refine zg ?_;refine CN hl 0 rfl rfl rfl rfl rfl rfl rfl AB rfl ?_;intro S1 hl;refine zA ?_;refine AG rfl ?_;refine AG rfl (F' hl [(32,.bool (G8 x)),(5,ptrTo B5 0),(4,.int .i64 (i:Int)),(20,.int .i64 (i:Int)),(19,.int .i64 L.length),(18,.slice (some ⟨b,o,none⟩) L.length cap),(1,ptrTo B1 0)] ?_ ?_)
  ·
   refine zg ?_
   refine zc hl rfl (c6 a2 x.AT.length Bv x.blank FH) ?_;rintro v S1 AM rfl hl
   refine zg ?_;refine AZ (d:=28) rfl (fun FA=>?_) (fun FA=>?_)
   ·
    refine zg ?_
    exact⟨rfl,⟨bl (by unfold G8 EM;simp only[FA,Ag]),rfl,rfl,rfl,rfl,rfl,rfl,trivial⟩,hl⟩
   refine zg ?_
   refine zc hl rfl (c6 a2 x.AT.length Bv x.blank FH) ?_;rintro v S1 AM rfl hl
   refine zg ?_
   exact⟨rfl,⟨bl (by unfold G8 EM;simp only[FA,Ag]),rfl,rfl,rfl,rfl,rfl,rfl,trivial⟩,hl⟩
  intro S1 hl
  refine zg ?_
  constructor<;>intro E1
  ·
   refine zg ?_
   refine Ai (AR (Ai (Bg (AR ((z2 rfl rfl ⟨hl.AD,FK (by rw[Cz,←DI,C9 hx,AAn E1])⟩))))))
  refine Ar rfl ?_;refine zS ?_;refine Az rfl ?_
  -- LOOP
  refine AK (L':=[(37,.int .i64 0),(36,.int .i64 x.AT.length),(35,.slice a2 x.AT.length Bv),(5,ptrTo B5 0),(4,.int .i64 (i:Int)),(20,.int .i64 (i:Int)),(19,.int .i64 L.length),(18,.slice (some ⟨b,o,none⟩) L.length cap),(1,ptrTo B1 0)]) sE ?_
  refine A2 rfl (fun m Le S'=>∃k:Nat,k≤x.AT.length∧m=x.AT.length-k∧Af [(37,.int .i64 (k:Int)),(36,.int .i64 x.AT.length),(35,.slice a2 x.AT.length Bv),(5,ptrTo B5 0),(4,.int .i64 (i:Int)),(20,.int .i64 (i:Int)),(19,.int .i64 L.length),(18,.slice (some ⟨b,o,none⟩) L.length cap),(1,ptrTo B1 0)] Le∧Fp (x.AT.take k) (x.AT.drop k)=Fp [] x.AT∧BE S [S] S' [(B5,.cells [.slice a2 x.AT.length Bv,.bool x.blank] 49 false true []),(B1,.cells [.string nm,.slice (some ⟨b,o,none⟩) L.length cap] 24 false true [])]) ?_ (m:=x.AT.length) ⟨0,AA,rfl,sE,rfl,hl⟩
  clear hl;rintro m Le S' ⟨k,hk,rfl,PD,BH,hl⟩;refine AK PD ?_
  refine zg ?_
  constructor<;>intro Fh
  ·
   have G3:k<x.AT.length:=dT Fh
   obtain⟨y,hy⟩:=Ad G3
   obtain⟨b2,o2,EH,rfl,_,GK,F0⟩:=Fm.elem hy
   refine zg ?_;refine aL hl [.int .i64 0,.int .i64 0,.int .i64 0,.int .i64 0,.bool false,.int .i64 0,.bool false,.bool false,.int .i64 0,.int .i64 0,.int .i64 0,.int .i64 0,.bool false,.int .i64 0,.int .i64 0,.int .i64 0,.int .i64 0] fun B7 S7 hl=>?_;refine zg ?_;refine CN hl 0 rfl rfl rfl rfl rfl rfl rfl AB rfl ?_;intro S1 hl;refine zg ?_
   refine zc hl rfl (AAb y (hG.AD hl.AD)) ?_;rintro v S1 AM rfl hl
   refine zg ?_
   constructor<;>intro DB
   ·
    refine zg ?_
    refine Ai (AR (Ai (Bg (AR (AR (Ai (Bg (AR ((z2 rfl rfl ⟨hl.AD,FK (by rw[Cz,←DI,C9 hx,oH E1 (by rw[←BH,C9 hy,z' DB]) DB])⟩))))))))))
   refine zg ?_
   obtain⟨a3,ZN,PC,jP⟩:=(Fm.move (hl.since 0 rfl)).front G3
   refine BC (idx:=[0,1,2,3,4,5]) rfl AB AB ?_;refine zg ?_;refine pk rfl (cT rfl rfl rfl rfl rfl PC) ?_;refine zg ?_
   refine zp hl rfl (AAc a3 ZN (x.AT.take k) y (by rw[List.length_take];omega) jP) ?_;rintro v S1 AM rfl hl;refine⟨⟨ON AB,ON AB,ON AB,trivial⟩,?_⟩
   refine zg ?_
   constructor<;>intro FC
   ·
    refine zg ?_
    refine AR (Ai (Bg (AR (AR (Ai (Bg (AR ((z2 rfl rfl ⟨hl.AD,FK (by rw[Cz,←DI,C9 hx,oH E1 (by rw[←BH,C9 hy,z9 DB FC]) rfl])⟩)))))))))
   refine Ar rfl ?_;refine xg AB ?_;refine rr rfl (Ao rfl rfl rfl rfl) ?_;refine rm rfl ?_;refine Ak rfl ?_
   exact⟨x.AT.length-(k+1),AA,k+1,AA,rfl,⟨congrArg some (congrArg (Value.int .i64) (IntWalk.i64_in _ AA)),rfl,rfl,rfl,rfl,rfl,rfl,rfl,rfl,trivial⟩,by rw[oS hy,←YO DB FC,←C9 hy];exact BH,hl.tail⟩
  refine HB rfl ?_;refine xg AB ?_;refine rr rfl (Ao rfl rfl rfl rfl) ?_;refine rm rfl ?_;refine Ak rfl ?_
  have Ww:Fp [] x.AT=0:=by
   rw[←BH,List.drop_eq_nil_of_le (dF Fh)];rfl
  exact⟨L.length-(i+1),AA,i+1,AA,rfl,⟨congrArg some (congrArg (Value.int .i64) (IntWalk.i64_in _ AA)),rfl,rfl,rfl,trivial⟩,by rw[←oI E1 Ww,←C9 hx];exact DI,hl.tail⟩
 refine zg ?_
 refine y2 rfl rfl ⟨hl.AD,FK (by rw[Cz,←DI,List.drop_eq_nil_of_le (dF Bf)];rfl)⟩
end Go.Proofs.YtmfphenhpkgidaaGreatDoor
namespace Go.Proofs.YtmfphenhpkgidaaGreatDoor
open Go.Cm Go
set_option maxRecDepth 100000
variable{S:St}
def AEg:List Sg→List Sg→List Sg
 |C,[]=>C
 |C,t::r=>bif decide (t∈C)then AEg C r else AEg (C++[t]) r
def AM5(x y:AP):AP:=⟨AEg x.AT y.AT,x.blank||y.blank⟩
theorem AUG{C r:List Sg}{t:Sg}(h:decide (t∈C)=true):AEg C (t::r)=AEg C r:=by rw[AEg,h];rfl
theorem AUF{C r:List Sg}{t:Sg}(h:decide (t∈C)=false):AEg C (t::r)=AEg (C++[t]) r:=by rw[AEg,h];rfl
def eY(S:St)(v:Value)(nm:ByteArray)(L:List AP):Prop:= ∃sv,v=AX [.string nm,sv]∧EG S sv L
theorem eY.move{S S':St}(h:RK S S'){v:Value}{nm:ByteArray}{L:List AP}(hs:eY S v nm L):eY S' v nm L:=by
 obtain⟨sv,h1,h2⟩:=hs
 exact⟨sv,h1,h2.move h⟩
theorem Am.is{S0 S:St}{g:Gr}(h:Am S0 S g):∃a,g.v= .slice a g.n g.n:=by
 rcases h with ⟨h1,_,h3⟩|⟨b,kin,h1,_⟩
 ·exact⟨none,by rw[h1,h3]⟩
 exact⟨_,h1⟩
def QZ(S:St)(D:List (List Value))(out:List AP):Prop:=D.length=out.length∧(∀d,d∈D→d.length=2)∧∀k x,nth out k=some x→∃c,nth D k=some c∧Tr S x c
theorem QZ.move{S S':St}(h:RK S S'){D:List (List Value)}{out:List AP}(hp:QZ S D out):QZ S' D out:=⟨hp.1,hp.2.1,fun k x hx=>by
 obtain⟨c,k1,k2⟩:=hp.2.2 k x hx
 exact⟨c,k1,k2.move h⟩⟩
theorem U0{α:Type}:∀{l:List α} {k:Nat} {x y:α},nth (l++[y]) k=some x→nth l k=some x∨(k=l.length∧x=y)
 | [],0,x,y,h=> .inr ⟨rfl,(Option.some.inj h).symm⟩
 | [],k+1,x,y,h=>by cases k<;>cases h
 |z::l,0,x,y,h=> .inl h
 |z::l,k+1,x,y,h=>by
  rcases U0 (l:=l) (k:=k) h with h|⟨h1,h2⟩
  ·exact .inl h
  exact .inr ⟨by simp[h1],h2⟩
theorem yC{α:Type}:∀{l r:List α} {k:Nat} {x:α},nth l k=some x→nth (l++r) k=some x
 |_::_,_,0,_,h=>h
 |_::l,r,k+1,x,h=>yC (l:=l) (r:=r) (k:=k) h
 | [],_,_,_,h=>by cases h
theorem yB{α:Type}:∀{l:List α} {x:α},nth (l++[x]) l.length=some x
 | [],_=>rfl
 |_::l,x=>yB (l:=l) (x:=x)
theorem QZ.push{S:St}{D:List (List Value)}{out:List AP}(hp:QZ S D out){x:AP}{c:List Value}(hc:Tr S x c):QZ S (D++[c]) (out++[x]):=by
 obtain⟨h1,h2,h3⟩:=hp
 refine⟨by simp[h1],fun d hd=>?_,fun k y hy=>?_⟩
 ·rcases List.mem_append.1 hd with hd|hd
  ·exact h2 d hd
  rw[List.mem_singleton.1 hd]
  obtain⟨sv,e,_⟩:=hc
  rw[e];rfl
 rcases U0 hy with hy|⟨e1,e2⟩
 ·obtain⟨c2,k1,k2⟩:=h3 k y hy
  exact⟨c2,yC k1,k2⟩
 subst e2
 exact⟨c,by rw[e1,←h1];exact yB,hc⟩
theorem Am.ATV{S0 S:St}{v:Value}{D:List (List Value)}{out:List AP}(h:Am S0 S ⟨v,49,2,D.flatten,D.length⟩)(hp:QZ S D out):EG S v out :=
 ⟨D,hp.1,Am.sliceAt (g:=⟨v,49,2,D.flatten,D.length⟩) h rfl rfl hp.2.1,hp.2.2⟩
theorem AE.shrink{S0 S:St}{Ts Us:List St}{l l':List (Nat×AF)}{gs gs':List Gr}(h:AE S0 Ts S l gs)(hl:l'.Sublist l)(hg:∀g,g∈gs'→g∈gs)(ht:∀T,T∈Us→T∈Ts):AE S0 Us S l' gs' :=
 ⟨(h.sub hl).AD,(h.sub hl).nd,(h.sub hl).at_,fun T hT=>h.rk T (ht T hT),fun g k=>h.gr g (hg g k)⟩
theorem YW{S:St}{b o n cap z:Nat}{e:TypeId}{c new:List Value}(h:DW S b e c)(hn:takeN (n*z) (CH o c)=some new):EN S z n (.slice (some ⟨b,o,none⟩) n cap)=some new:=by
 obtain⟨_,own,kin,hg⟩:=h
 show MW S b o (n*z)=_
 unfold MW
 rw[hg]
 exact hn
theorem XP{t e:TypeId}{a:Option Addr}{b o len cap z:Nat}{k:IntKind}{i:Int}(ha:a=some ⟨b,o,none⟩)(hu:Tryz.prog.underlying t=some (.slice e))(hz:A5 Tryz.prog e=some z)(hi:0≤i∧i<len) :
  G5 Tryz.prog t (.slice a len cap) (.int k i)=some (ptrTo b (o+i.toNat*z)):=by
 subst ha
 exact F3 hu hz hi
end Go.Proofs.YtmfphenhpkgidaaGreatDoor
namespace Go.Proofs.YtmfphenhpkgidaaGreatDoor
open Go.Cm Go
set_option maxRecDepth 100000
variable{S:St}
theorem Ht{z o j:Nat}{c l:List Value}{v:Value}(h:takeN z (CH o c)=some l)(hj:nth l j=some v):nth c (o+j)=some v:=by
 obtain⟨_,_,e⟩:=IW _ _ _ h
 subst e
 have:=Xi hj
 rw[Ha]at this
 rw[CE]at this ⊢
 rw[List.getElem?_drop]at this
 exact this
end Go.Proofs.YtmfphenhpkgidaaGreatDoor
namespace Go.Proofs.YtmfphenhpkgidaaGreatDoor
open Go.Cm Go
set_option maxRecDepth 100000
variable{S:St}
theorem AJ8{P:Program}{n:Nat}{t:TypeId}{k:IntKind}{c:List Value}(h:DV P (n+1) t S c)(hu:P.underlying t=some (.int k)):∃m,c= [.int k m]:=by
 unfold DV at h
 rw[hu]at h
 obtain⟨m,h,_⟩:=h
 exact⟨m,h⟩
theorem yF{α:Type}(f:Nat→α):∀(n k i:Nat),i<n→nth ((List.range' k n).map f) i=some (f (k+i))
 |n+1,k,0,_=>rfl
 |n+1,k,i+1,h=>by
  show nth ((List.range' (k+1) n).map f) i=_
  rw[yF f n (k+1) i AA]
  congr 2;omega
theorem AJ'{P:Program}{n z:Nat}{t e:TypeId}{c:List Value}(h:DV P (n+1) t S c)(hu:P.underlying t=some (.slice e))(hz:P.cellsOf e=z):∃v C,c= [v]∧DL S e z v C∧∀x,x∈C→DV P n e S x:=by
 unfold DV at h
 rw[hu]at h
 rcases h with h|⟨b,o,k,h⟩|⟨b,len,cs,h1,h2,h3,h4,h5,h6⟩
 ·exact⟨_,[],h,.inl ⟨rfl,.inl rfl⟩,fun x hx=>(List.not_mem_nil hx).elim⟩
 ·exact⟨_,[],h,.inl ⟨rfl,.inr ⟨b,o,k,rfl⟩⟩,fun x hx=>(List.not_mem_nil hx).elim⟩
 refine⟨_,(List.range' 0 len).map (fun i=>(cs.drop (i*z)).take z),h1,.inr ⟨b,0,len,cs,by simp,by simp,⟨h2,_,_,h3⟩,fun k x hk=>?_⟩,fun x hx=>?_⟩
 ·have AN:k<len:=by have:=I5 hk;simpa using this
  rw[yF _ _ _ _ AN]at hk
  cases hk
  rw[Ha,Nat.zero_add,Nat.zero_add,Td]
  rw[List.length_drop,h4,hz]
  have:(k+1)*z≤len*z:=Nat.mul_le_mul_right z AN
  rw[Nat.add_mul]at this
  omega
 obtain⟨i,hi,rfl⟩:=List.mem_map.1 hx
 rw[List.mem_range'_1]at hi
 have:=h6 i AA
 rw[hz]at this
 exact this
end Go.Proofs.YtmfphenhpkgidaaGreatDoor
namespace Go.Proofs.YtmfphenhpkgidaaGreatDoor
open Go.Cm Go
set_option maxRecDepth 100000
variable{S:St}
theorem xR{s:Sg}:∀{C:List Sg},s∈C→∃j,nth C j=some s
 | [],h=>(List.not_mem_nil h).elim
 |x::C,h=>by
  rcases List.mem_cons.1 h with rfl|h
  ·exact⟨0,rfl⟩
  obtain⟨j,hj⟩:=xR h
  exact⟨j+1,hj⟩
noncomputable def c70:Code:=Tryz.f70.body.getD .skip
theorem AOa(a:Option Addr)(cap:Nat)(C:List Sg)(s:Sg)(hn:C.length≤1000)(hv:Ck S (.slice a C.length cap) C):CC Tryz.prog KK 70 [.slice a C.length cap,s.v] S (fun v S'=>AL S S'∧v= .bool (decide (s∈C))):=by
 refine Ce (c:=c70) (n:=18) Tryz.func70 rfl rfl rfl AB rfl rfl ?_
 have hl:=BE.start S
 refine zg ?_;refine bL hl fun B3 S3 hl=>?_;refine zA ?_;refine AG rfl ?_;refine zS ?_;refine Az rfl ?_
 -- LOOP
 refine AK (L':=[(5,.int .i64 0),(3,ptrTo B3 0),(0,.slice a C.length cap)]) sE ?_
 refine A2 rfl (fun m Le S'=>∃i:Nat,i≤C.length∧m=C.length-i∧Af [(5,.int .i64 (i:Int)),(3,ptrTo B3 0),(0,.slice a C.length cap)] Le∧(∀j,j<i→∀y,nth C j=some y→y≠s)∧BE S [S] S' [(B3,.cells s.cells 55 false true [])]) ?_ (m:=C.length) ⟨0,AA,rfl,sE,fun j hj=>by omega,hl⟩
 clear hl;rintro m Le S' ⟨i,hi,rfl,AH,Ac,hl⟩;refine AK AH ?_
 refine zg ?_
 constructor<;>intro h9
 ·
  have AN:i<C.length:=dT h9
  obtain⟨x,hx⟩:=Ad AN
  obtain⟨b,o,cs,ha,_,AQ,Aa⟩:=hv.elem hx
  refine zg ?_;refine BC (idx:=[0,1,2,3,4,5]) rfl AB AB ?_;refine zg ?_;refine pr rfl (Ao rfl rfl rfl (sr _ _ x s)) ?_;refine zg ?_
  constructor<;>intro Dl
  ·
   refine zg ?_
   refine AR (Ai (Bg (AR ((z1 rfl ⟨hl.AD,congrArg Value.bool (by symm;rw[decide_eq_true_iff];obtain rfl:x=s:=(by simpa using Dl);exact BV hx)⟩)))))
  refine Ar rfl ?_;refine xg AB ?_;refine rm rfl ?_;refine rr rfl (Ao rfl rfl rfl rfl) ?_;refine rm rfl ?_;refine Ak rfl ?_
  refine⟨C.length-(i+1),AA,i+1,AA,rfl,⟨congrArg some (congrArg (Value.int .i64) (IntWalk.i64_in _ AA)),rfl,rfl,trivial⟩,fun j hj y hy=>?_,hl⟩
  rcases Nat.lt_succ_iff_lt_or_eq.1 hj with hj|rfl
  ·exact Ac j hj y hy
  rw[hx]at hy;cases hy;simpa using Dl
 refine zg ?_
 refine y1 rfl ⟨hl.AD,congrArg Value.bool (by symm;rw[decide_eq_false_iff_not];intro hm;obtain⟨j,hj⟩:=xR hm;exact Ac j (by have:=I5 hj;have:=Jk h9;omega) s hj rfl)⟩
noncomputable def c41:Code:=Tryz.f41.body.getD .skip
theorem YT(a:Option Addr)(n cap:Nat)(b:Bool)(hn:n≤1000):CC Tryz.prog KK 41 [AX [.slice a n cap,.bool b]] S (fun v S'=>AL S S'∧v= .int .i64 (n+bif b then 1 else 0)):=by
 refine Ce (c:=c41) (n:=12) Tryz.func41 rfl rfl rfl AB rfl rfl ?_
 have hl:=BE.start S
 refine zg ?_;refine bL hl fun B1 S1 hl=>?_;refine zg ?_
 constructor<;>intro h4
 ·
  refine xs AB ?_;refine rr rfl (CM rfl rfl (fa Tryz.underlying49 Qd rfl)) ?_;refine rr rfl (rl hl 0 rfl rfl AB rfl rfl) ?_;refine rr rfl (F8 rfl rfl (IK Tryz.underlying42)) ?_;refine rr rfl (Ao rfl rfl rfl rfl) ?_;refine rm rfl ?_;refine Ak rfl ?_;refine Gt rfl ?_
  refine Ai (BA (BD rfl rfl) ⟨hl.AD,congrArg (Value.int .i64) (by rw[h4];exact IntWalk.i64_in _ AA)⟩)
 refine zg ?_
 refine y1 rfl ⟨hl.AD,congrArg (Value.int .i64) (by rw[h4];simp)⟩
noncomputable def c24:Code:=Tryz.f24.body.getD .skip
theorem AUZ(a:Option Addr)(cap:Nat)(C:List Sg)(hn:C.length≤1000)(hv:Ck S (.slice a C.length cap) C):CC Tryz.prog KK 24 [.slice a C.length cap] S (fun v S'=>AL S S'∧eM S S' v C):=by
 refine Ce (c:=c24) (n:=6) Tryz.func24 rfl rfl rfl AB rfl rfl ?_
 have hl:=BE.start S
 refine zg ?_;refine mn hl (c:=[]) 17 rfl rfl rfl rfl rfl Tryz.underlying42 rfl AB rfl ?_;intro AUu S1 hl;refine zg ?_
 have F1:=hv.move (hl.since 0 rfl)
 refine DZ hl 0 rfl rfl (by simp) rfl rfl rfl rfl rfl rfl rfl Tryz.underlying42 Tryz.underlying42 rfl rfl AB F1.cells (Zs C) (gJ C) AB (by show 0+C.length≤Ae;unfold Ae;omega) ?_;intro v5 S1 hl;refine zg ?_
 refine y1 rfl ⟨hl.AD,AT8 (hl.gr _ Al)⟩
noncomputable def c67:Code:=Tryz.f67.body.getD .skip
theorem AAi(c:Int):CC Tryz.prog KK 67 [.int .u8 c] S (fun v S'=>AL S S'∧v= .bool (decide (97≤c)&&decide (c≤122))):=by
 refine Ce (c:=c67) (n:=9) Tryz.func67 rfl rfl rfl AB rfl rfl ?_
 have hl:=BE.start S
 refine zg ?_;refine AZ (d:=5) rfl (fun h5=>?_) (fun h5=>?_)
 ·
  refine zg ?_
  refine y1 rfl ⟨hl.AD,congrArg Value.bool (by first|(simp[h5];done)|(simp at *;simp[*];done)|(simp at *;omega))⟩
 refine zg ?_
 refine y1 rfl ⟨hl.AD,congrArg Value.bool (by first|(simp[h5];done)|(simp at *;simp[*];done)|(simp at *;omega))⟩
noncomputable def c68:Code:=Tryz.f68.body.getD .skip
theorem AOZ(c:Int):CC Tryz.prog KK 68 [.int .u8 c] S (fun v S'=>AL S S'∧v= .bool (decide (48≤c)&&decide (c≤57))):=by
 refine Ce (c:=c68) (n:=9) Tryz.func68 rfl rfl rfl AB rfl rfl ?_
 have hl:=BE.start S
 refine zg ?_;refine AZ (d:=5) rfl (fun h5=>?_) (fun h5=>?_)
 ·
  refine zg ?_
  refine y1 rfl ⟨hl.AD,congrArg Value.bool (by first|(simp[h5];done)|(simp at *;simp[*];done)|(simp at *;omega))⟩
 refine zg ?_
 refine y1 rfl ⟨hl.AD,congrArg Value.bool (by first|(simp[h5];done)|(simp at *;simp[*];done)|(simp at *;omega))⟩
noncomputable def AEJ:Code:=Tryz.f113.body.getD .skip
theorem JB(a b c:Int):CC Tryz.prog KK 113 [.int .i64 a,.int .i64 b,.int .i64 c] S (fun v S'=>AL S S'∧v= .bool (decide (b≤a)&&decide (a≤c))):=by
 refine Ce (c:=AEJ) (n:=15) Tryz.func113 rfl rfl rfl AB rfl rfl ?_
 have hl:=BE.start S
 refine zg ?_;refine AZ (d:=10) rfl (fun Bs=>?_) (fun Bs=>?_)
 ·
  refine zg ?_
  refine y1 rfl ⟨hl.AD,congrArg Value.bool (by first|(simp[Bs];done)|(simp at *;simp[*];done)|(simp at *;omega))⟩
 refine zg ?_
 refine y1 rfl ⟨hl.AD,congrArg Value.bool (by first|(simp[Bs];done)|(simp at *;simp[*];done)|(simp at *;omega))⟩
theorem xU{α:Type}{s:α}:∀{C:List α},s∈C→∃j,nth C j=some s
 | [],h=>(List.not_mem_nil h).elim
 |x::C,h=>by
  rcases List.mem_cons.1 h with rfl|h
  ·exact⟨0,rfl⟩
  obtain⟨j,hj⟩:=xU h
  exact⟨j+1,hj⟩
def Lu(nm:List UInt8)(n:Nat)(Ji:Int):Bool:=(decide ((nm.length:Int)>100)||(decide ((n:Int)>Ji)&&decide ((n:Int)≤400)))||decide ((n:Int)>420)
def Mb(nm:List UInt8)(L:List AP)(Ji:Int):Bool:=!Lu nm L.length Ji&&L.all fun x=>!decide ((x.AT.length:Int)>6)
theorem ANR{nm:List UInt8}{L:List AP}{Ji:Int}(h:Mb nm L Ji=true):L.length≤420∧∀x,x∈L→x.AT.length≤6:=by
 unfold Mb at h
 simp only[Bool.and_eq_true]at h
 obtain⟨h1,h2⟩:=h
 refine⟨?_,fun x hx=>?_⟩
 ·unfold Lu at h1
  simp at h1
  omega
 have:=List.all_eq_true.1 h2 x hx
 simp at this
 omega
theorem ANQ{L:List AP}(h:∀j x,nth L j=some x→decide ((x.AT.length:Int)>6)=false):(L.all fun x=>!decide ((x.AT.length:Int)>6))=true:=by
 rw[List.all_eq_true]
 intro x hx
 obtain⟨j,hj⟩:=xU hx
 rw[h j x hj]
 rfl
theorem ADJ{nm:List UInt8}{n:Nat}{Ji:Int}(h:Lu nm n Ji=false):n≤420:=by
 unfold Lu at h
 simp at h
 omega
noncomputable def c26:Code:=Tryz.f26.body.getD .skip
theorem AN'(nm:ByteArray)(a:Option Addr)(cap:Nat)(L:List AP)(Ji:Int)(hv:EG S (.slice a L.length cap) L):CC Tryz.prog KK 26 [AX [.string nm,.slice a L.length cap],.int .i64 Ji] S (fun v S'=>AL S S'∧v= .bool (Mb nm.data.toList L Ji)):=by
 refine Ce (c:=c26) (n:=44) Tryz.func26 rfl rfl rfl AB rfl rfl ?_
 have hl:=BE.start S
 refine zg ?_;refine bL hl fun B2 S2 hl=>?_;refine zA ?_;refine AG rfl ?_;refine AG rfl (F' hl [(28,.bool (Lu nm.data.toList L.length Ji)),(2,ptrTo B2 0)] ?_ ?_)
 ·
  refine xg AB ?_;refine rr rfl (CM rfl rfl (fa Tryz.underlying24 Oc rfl)) ?_;refine rr rfl (rl hl 0 rfl rfl AB rfl rfl) ?_;refine rr rfl (F8 rfl rfl (Uo Tryz.underlying9)) ?_;refine rr rfl (Ao rfl rfl rfl rfl) ?_;refine rm rfl ?_;refine AZ (d:=10) rfl (fun Bs=>?_) (fun Bs=>?_)
  ·
   refine zg ?_
   exact⟨rfl,⟨bl (by unfold Lu;simp only[Bs,Ag]),rfl,trivial⟩,hl⟩
  refine zg ?_;refine AZ (d:=16) rfl (fun Bt=>?_) (fun Bt=>?_)
  ·
   refine zg ?_;refine AZ (d:=23) rfl (fun DG=>?_) (fun DG=>?_)
   ·
    refine zg ?_
    exact⟨rfl,⟨bl (by unfold Lu;simp only[DG,Bt,Bs,Ag]),rfl,trivial⟩,hl⟩
   refine zg ?_
   exact⟨rfl,⟨bl (by unfold Lu;simp only[DG,Bt,Bs,Ag]),rfl,trivial⟩,hl⟩
  refine zg ?_
  exact⟨rfl,⟨bl (by unfold Lu;simp only[Bt,Bs,Ag]),rfl,trivial⟩,hl⟩
 intro S1 hl
 refine zg ?_
 constructor<;>intro FA
 ·
  refine zg ?_
  exact(z1 rfl ⟨hl.AD,congrArg Value.bool (by unfold Mb;rw[FA];rfl)⟩)
 refine Ar rfl ?_;refine AG rfl ?_;refine zS ?_;refine Az rfl ?_
 -- LOOP
 have hle:=ADJ FA
 refine AK (L':=[(5,.int .i64 0),(2,ptrTo B2 0)]) sE ?_
 refine A2 rfl (fun m Le S'=>∃i:Nat,i≤L.length∧m=L.length-i∧Af [(5,.int .i64 (i:Int)),(2,ptrTo B2 0)] Le∧(∀j,j<i→∀x,nth L j=some x→decide ((x.AT.length:Int)>6)=false)∧BE S [S] S' [(B2,.cells [.string nm,.slice a L.length cap] 24 false true [])]) ?_ (m:=L.length) ⟨0,AA,rfl,sE,fun j hj=>by omega,hl⟩
 clear hl;rintro m Le S' ⟨i,hi,rfl,AH,BI,hl⟩;refine AK AH ?_
 refine zg ?_
 constructor<;>intro EU
 ·
  have AN:i<L.length:=dT EU
  obtain⟨x,hx⟩:=Ad AN
  obtain⟨bx,ox,fV,ax,NS,Q5,RN,RO,PB⟩:=hv.elem hx
  refine zg ?_
  constructor<;>intro FB
  ·
   refine zg ?_
   refine AR (Ai (Bg (AR ((z1 rfl ⟨hl.AD,congrArg Value.bool (by unfold Mb;rw[List.all_eq_false.2 ⟨x,BV hx,by rw[FB];simp⟩,Bool.and_false])⟩)))))
  refine Ar rfl ?_;refine xg AB ?_;refine rm rfl ?_;refine rr rfl (Ao rfl rfl rfl rfl) ?_;refine rm rfl ?_;refine Ak rfl ?_
  refine⟨L.length-(i+1),AA,i+1,AA,rfl,⟨congrArg some (congrArg (Value.int .i64) (IntWalk.i64_in _ AA)),rfl,trivial⟩,fun j hj y hy=>?_,hl⟩
  rcases Nat.lt_succ_iff_lt_or_eq.1 hj with hj|rfl
  ·exact BI j hj y hy
  rw[hx]at hy;cases hy;exact FB
 refine zg ?_
 refine y1 rfl ⟨hl.AD,congrArg Value.bool (by unfold Mb;rw[FA,ANQ fun j x hj=>BI j (by have:=I5 hj;have:=Jk EU;omega) x hj];rfl)⟩
end Go.Proofs.YtmfphenhpkgidaaGreatDoor
namespace Go.Proofs.YtmfphenhpkgidaaGreatDoor
open Go.Cm Go
set_option maxRecDepth 100000
variable{S:St}
theorem EX{k:Int}(h1:1≤k)(h2:k≤12):k=1∨k=2∨k=3∨k=4∨k=5∨k=6∨k=7∨k=8∨k=9∨k=10∨k=11∨k=12:=by omega
theorem ub7{k:Int}(h1:1≤k)(h2:k≤12):ub k 7=(k==5):=by
 rcases EX h1 h2 with rfl|rfl|rfl|rfl|rfl|rfl|rfl|rfl|rfl|rfl|rfl|rfl<;>rfl
theorem N2{s:Sg}{k:Int}(h:s.kind=k):II s (ub s.kind 0) (ub s.kind 1) (ub s.kind 2) (ub s.kind 3) (ub s.kind 4) (ub s.kind 5) (ub s.kind 6) (ub s.kind 7) (ub s.kind 8) (ub s.kind 9) (ub s.kind 10) (ub s.kind 11)=II s (ub k 0) (ub k 1) (ub k 2) (ub k 3) (ub k 4) (ub k 5) (ub k 6) (ub k 7) (ub k 8) (ub k 9) (ub k 10) (ub k 11):=by rw[h]
theorem OF{s:Sg}(h:s.kind=1):Au s (ub s.kind 0) (ub s.kind 1) (ub s.kind 2) (ub s.kind 4) (ub s.kind 10) (ub s.kind 11)=Au s true true true false false false:=by rw[h];rfl
theorem nG{s:Sg}(h:s.kind=2):Au s (ub s.kind 0) (ub s.kind 1) (ub s.kind 2) (ub s.kind 4) (ub s.kind 10) (ub s.kind 11)=Au s true false false false false false:=by rw[h];rfl
theorem nH{s:Sg}(h:s.kind=3):Au s (ub s.kind 0) (ub s.kind 1) (ub s.kind 2) (ub s.kind 4) (ub s.kind 10) (ub s.kind 11)=Au s false false false false false false:=by rw[h];rfl
theorem OG{s:Sg}(h:s.kind=4):Au s (ub s.kind 0) (ub s.kind 1) (ub s.kind 2) (ub s.kind 4) (ub s.kind 10) (ub s.kind 11)=Au s false true true true false false:=by rw[h];rfl
theorem nI{s:Sg}(h:s.kind=5):Au s (ub s.kind 0) (ub s.kind 1) (ub s.kind 2) (ub s.kind 4) (ub s.kind 10) (ub s.kind 11)=Au s false false false false false false:=by rw[h];rfl
theorem VE{s:Sg}(h:s.kind=6):Au s (ub s.kind 0) (ub s.kind 1) (ub s.kind 2) (ub s.kind 4) (ub s.kind 10) (ub s.kind 11)=Au s false false false false true false:=by rw[h];rfl
theorem Hq{s:Sg}(h:s.kind=7):Au s (ub s.kind 0) (ub s.kind 1) (ub s.kind 2) (ub s.kind 4) (ub s.kind 10) (ub s.kind 11)=Au s false false false false false true:=by rw[h];rfl
theorem nJ{s:Sg}(h:s.kind=8):Au s (ub s.kind 0) (ub s.kind 1) (ub s.kind 2) (ub s.kind 4) (ub s.kind 10) (ub s.kind 11)=Au s false false false false false false:=by rw[h];rfl
theorem nK{s:Sg}(h:s.kind=9):Au s (ub s.kind 0) (ub s.kind 1) (ub s.kind 2) (ub s.kind 4) (ub s.kind 10) (ub s.kind 11)=Au s false false false false false false:=by rw[h];rfl
theorem nC{s:Sg}(h:s.kind=10):Au s (ub s.kind 0) (ub s.kind 1) (ub s.kind 2) (ub s.kind 4) (ub s.kind 10) (ub s.kind 11)=Au s false false false false false false:=by rw[h];rfl
theorem nD{s:Sg}(h:s.kind=11):Au s (ub s.kind 0) (ub s.kind 1) (ub s.kind 2) (ub s.kind 4) (ub s.kind 10) (ub s.kind 11)=Au s false false false false false false:=by rw[h];rfl
theorem nE{s:Sg}(h:s.kind=12):Au s (ub s.kind 0) (ub s.kind 1) (ub s.kind 2) (ub s.kind 4) (ub s.kind 10) (ub s.kind 11)=Au s false false false false false false:=by rw[h];rfl
noncomputable def c90:Code:=Tryz.f90.body.getD .skip
theorem YV(a b c d:Int):CC Tryz.prog KK 90 [AX [.int .i64 a,.int .i64 b,.int .i64 c,.int .i64 d]] S (fun v S'=>AL S S'∧v= .int .i64 (Gi a b c d)):=by
 refine Ce (c:=c90) (n:=32) Tryz.func90 rfl rfl rfl AB rfl rfl ?_
 have hl:=BE.start S
 refine zg ?_;refine bL hl fun B1 S1 hl=>?_;refine zg ?_;refine dL hl [Value.int .i64 a,.int .i64 b,.int .i64 c,.int .i64 d] Tryz.underlying38 fun JH S1 UU hl=>?_;refine zA ?_;refine AG rfl ?_;refine zS ?_;refine Az rfl ?_
 -- LOOP
 refine AK (L':=[(4,.int .i64 0),(3,.slice (some ⟨JH,0,none⟩) 4 4)]) sE ?_
 refine A2 rfl (fun m Le S'=>∃i:Nat,i≤4∧m=4-i∧Af [(4,.int .i64 (i:Int)),(3,.slice (some ⟨JH,0,none⟩) 4 4)] Le∧(∀j,j<i→KV (GD a b c d j)=true)∧DW S' JH 3 [Value.int .i64 a,.int .i64 b,.int .i64 c,.int .i64 d]∧AL S S') ?_ (m:=4) ⟨0,AA,rfl,sE,fun j hj=>by omega,UU,hl.AD⟩
 clear UU hl;rintro m Le S' ⟨i,hi,rfl,AH,BI,hr,hk⟩;refine AK AH ?_
 refine zg ?_
 constructor<;>intro Dl
 ·
  have AN:i<4:=dT Dl
  refine Ar rfl ?_;refine AG rfl ?_;refine Az rfl ?_;refine AG rfl (HV [(31,.bool (GD a b c d i !=2&&GD a b c d i !=3)),(4,.int .i64 (i:Int)),(3,.slice (some ⟨JH,0,none⟩) 4 4)] (fun S2=>S2=S') ?_ ?_)
  ·
   refine xg AB ?_;iterate 2 refine rm rfl ?_
   refine rr rfl (Ea rfl rfl rfl (F3 (z:=1) Tryz.underlying38 AB ⟨AA,AA⟩)) ?_;refine rr rfl (CU rfl rfl (GN AB hr (by rw[Nat.zero_add];exact ek (a:=a) (b:=b) (c:=c) (d:=d) (i:=i) AN))) ?_;refine rr rfl (Ao rfl rfl rfl rfl) ?_;refine rm rfl ?_;refine AZ (d:=25) rfl (fun C'=>?_) (fun C'=>?_)
   ·
    iterate 2 refine rm rfl ?_
    refine rr rfl (Ea rfl rfl rfl (F3 (z:=1) Tryz.underlying38 AB ⟨AA,AA⟩)) ?_;refine rr rfl (CU rfl rfl (GN AB hr (by rw[Nat.zero_add];exact ek (a:=a) (b:=b) (c:=c) (d:=d) (i:=i) AN))) ?_;refine rr rfl (Ao rfl rfl rfl rfl) ?_;refine rm rfl ?_;refine Ak rfl ?_
    exact⟨rfl,⟨bl (by first|(simp[C'];done)|(simp only[C',Ag])),rfl,rfl,trivial⟩,rfl⟩
   refine zg ?_
   exact⟨rfl,⟨bl (by first|(simp[C'];done)|(simp only[C',Ag])),rfl,rfl,trivial⟩,rfl⟩
  rintro _ rfl
  refine zg ?_
  constructor<;>intro Gy
  ·
   refine zg ?_
   refine AR (Ai (Bg (AR ((z1 rfl ⟨hk,congrArg (Value.int .i64) (xW (i:=i) (by revert Gy;unfold KV;simp only[bne];cases (GD a b c d i==2)<;>cases (GD a b c d i==3)<;>decide)).symm⟩)))))
  refine Ar rfl ?_;refine xg AB ?_;refine rm rfl ?_;refine rr rfl (Ao rfl rfl rfl rfl) ?_;refine rm rfl ?_;refine Ak rfl ?_
  refine⟨4-(i+1),AA,i+1,AA,rfl,⟨congrArg some (congrArg (Value.int .i64) (IntWalk.i64_in _ AA)),rfl,trivial⟩,fun j hj=>?_,hr,hk⟩
  rcases Nat.lt_succ_iff_lt_or_eq.1 hj with hj|rfl
  ·exact BI j hj
  revert Gy;unfold KV;simp only[bne];cases (GD a b c d j==2)<;>cases (GD a b c d j==3)<;>decide
 refine zg ?_
 refine y1 rfl ⟨hk,congrArg (Value.int .i64) (xX fun j hj=>BI j (dF Dl)).symm⟩
noncomputable def c89:Code:=Tryz.f89.body.getD .skip
theorem AOk(s:Sg)(k1:1≤s.kind)(k2:s.kind≤12):CC Tryz.prog KK 89 [s.v] S (fun v S'=>AL S S'∧v=(II s (ub s.kind 0) (ub s.kind 1) (ub s.kind 2) (ub s.kind 3) (ub s.kind 4) (ub s.kind 5) (ub s.kind 6) (ub s.kind 7) (ub s.kind 8) (ub s.kind 9) (ub s.kind 10) (ub s.kind 11)).v):=by
 refine Ce (c:=c89) (n:=76) Tryz.func89 rfl rfl rfl AB rfl rfl ?_
 have hl:=BE.start S
 refine zg ?_;refine bL hl fun B1 S1 hl=>?_;refine aL hl [.int .i64 0,.int .i64 0,.int .i64 0,.int .i64 0,.bool false,.int .i64 0,.bool false,.bool false,.int .i64 0,.int .i64 0,.int .i64 0,.int .i64 0,.bool false,.int .i64 0,.int .i64 0,.int .i64 0,.int .i64 0] fun B2 S2 hl=>?_;refine zg ?_;refine rr rfl (A9 rfl rfl (v:=AX [.int .i64 s.kind,.int .i64 0,.int .i64 0,.int .i64 0,.bool false,.int .i64 0,.bool false,.bool false,.int .i64 0,.int .i64 0,.int .i64 0,.int .i64 0,.bool false,.int .i64 0,.int .i64 0,.int .i64 0,.int .i64 0]) (by rfl)) ?_
 refine aL hl [.int .i64 0,.int .i64 0,.int .i64 0,.int .i64 0,.bool false,.int .i64 0,.bool false,.bool false,.int .i64 0,.int .i64 0,.int .i64 0,.int .i64 0,.bool false,.int .i64 0,.int .i64 0,.int .i64 0,.int .i64 0] fun B3 S3 hl=>?_;refine CN hl 0 rfl rfl rfl rfl rfl rfl rfl AB rfl ?_;intro S1 hl;refine zg ?_
 constructor<;>intro h9
 ·
  refine BC (idx:=[0,1,2,3,4,5,6,7,8,9,10,11,12,13,14,15]) rfl AB AB ?_;refine zg ?_
  refine Hs hl 0 rfl rfl rfl rfl rfl rfl rfl AB rfl ?_;intro S1 hl;refine⟨HT ((by repeat (first|exact trivial|refine⟨(by first|exact CQ (X:=True) rfl rfl (C4 AB (hl.get 2 rfl) rfl) (Dt (BK _ _)) rfl trivial|exact CQ (X:=True) rfl rfl (C4 AB (hl.get 2 rfl) rfl) (Dt (GF _)) rfl trivial|exact CQ (X:=True) rfl rfl (CD (z:=4) AB AB (hl.get 2 rfl) rfl) (GR rfl (BS (BK _ _) (BS (BK _ _) (BS (BK _ _) (BS (BK _ _) GG))))) rfl trivial),?_⟩))),?_⟩
  refine zg ?_
  refine Hs hl 0 rfl rfl rfl rfl rfl rfl rfl AB rfl ?_;intro S1 hl;refine⟨HT (E0 ((by repeat (first|exact trivial|refine⟨(by first|exact CQ (X:=True) rfl rfl (C4 AB (hl.get 2 rfl) rfl) (Dt (BK _ _)) rfl trivial|exact CQ (X:=True) rfl rfl (C4 AB (hl.get 2 rfl) rfl) (Dt (GF _)) rfl trivial|exact CQ (X:=True) rfl rfl (CD (z:=4) AB AB (hl.get 2 rfl) rfl) (GR rfl (BS (BK _ _) (BS (BK _ _) (BS (BK _ _) (BS (BK _ _) GG))))) rfl trivial),?_⟩)))),?_⟩
  refine zg ?_
  refine Hs hl 0 rfl rfl rfl rfl rfl rfl rfl AB rfl ?_;intro S1 hl;refine⟨HT (E0 (E0 ((by repeat (first|exact trivial|refine⟨(by first|exact CQ (X:=True) rfl rfl (C4 AB (hl.get 2 rfl) rfl) (Dt (BK _ _)) rfl trivial|exact CQ (X:=True) rfl rfl (C4 AB (hl.get 2 rfl) rfl) (Dt (GF _)) rfl trivial|exact CQ (X:=True) rfl rfl (CD (z:=4) AB AB (hl.get 2 rfl) rfl) (GR rfl (BS (BK _ _) (BS (BK _ _) (BS (BK _ _) (BS (BK _ _) GG))))) rfl trivial),?_⟩))))),?_⟩
  refine zg ?_
  refine Hs hl 0 rfl rfl rfl rfl rfl rfl rfl AB rfl ?_;intro S1 hl;refine⟨HT (E0 (E0 (E0 ((by repeat (first|exact trivial|refine⟨(by first|exact CQ (X:=True) rfl rfl (C4 AB (hl.get 2 rfl) rfl) (Dt (BK _ _)) rfl trivial|exact CQ (X:=True) rfl rfl (C4 AB (hl.get 2 rfl) rfl) (Dt (GF _)) rfl trivial|exact CQ (X:=True) rfl rfl (CD (z:=4) AB AB (hl.get 2 rfl) rfl) (GR rfl (BS (BK _ _) (BS (BK _ _) (BS (BK _ _) (BS (BK _ _) GG))))) rfl trivial),?_⟩)))))),?_⟩
  refine zg ?_;refine CN hl 1 rfl rfl rfl rfl rfl rfl rfl AB rfl ?_;intro S1 hl;refine zg ?_
  refine BA (Bm rfl (CD (z:=17) AB AB (hl.get 1 rfl) rfl) rfl) ⟨hl.AD,by rcases EX k1 k2 with hk|hk|hk|hk|hk|hk|hk|hk|hk|hk|hk|hk<;>first|(rw[N2 hk];rfl)|(exfalso;simp[hk]at h9)⟩
 refine zg ?_
 constructor<;>intro DG
 ·
  refine zg ?_;refine CN hl 0 rfl rfl rfl rfl rfl rfl rfl AB rfl ?_;intro S1 hl;refine zg ?_;refine CN hl 1 rfl rfl rfl rfl rfl rfl rfl AB rfl ?_;intro S1 hl;refine zg ?_
  refine BA (Bm rfl (CD (z:=17) AB AB (hl.get 1 rfl) rfl) rfl) ⟨hl.AD,by rcases EX k1 k2 with hk|hk|hk|hk|hk|hk|hk|hk|hk|hk|hk|hk<;>first|(rw[N2 hk];rfl)|(exfalso;simp[hk]at DG h9)⟩
 refine zg ?_
 constructor<;>intro FA
 ·
  refine BC (idx:=[0,1,2,3,4,5,6,7,8,9,10,11,12,13,14,15,16,17,18,19,20,21,22,23]) rfl AB AB ?_;refine zg ?_
  refine Hs hl 0 rfl rfl rfl rfl rfl rfl rfl AB rfl ?_;intro S1 hl;refine⟨HT ((by repeat (first|exact trivial|refine⟨(by first|exact CQ (X:=True) rfl rfl (C4 AB (hl.get 2 rfl) rfl) (Dt (BK _ _)) rfl trivial|exact CQ (X:=True) rfl rfl (C4 AB (hl.get 2 rfl) rfl) (Dt (GF _)) rfl trivial|exact CQ (X:=True) rfl rfl (CD (z:=4) AB AB (hl.get 2 rfl) rfl) (GR rfl (BS (BK _ _) (BS (BK _ _) (BS (BK _ _) (BS (BK _ _) GG))))) rfl trivial),?_⟩))),?_⟩
  refine zg ?_
  refine Hs hl 0 rfl rfl rfl rfl rfl rfl rfl AB rfl ?_;intro S1 hl;refine⟨HT (E0 ((by repeat (first|exact trivial|refine⟨(by first|exact CQ (X:=True) rfl rfl (C4 AB (hl.get 2 rfl) rfl) (Dt (BK _ _)) rfl trivial|exact CQ (X:=True) rfl rfl (C4 AB (hl.get 2 rfl) rfl) (Dt (GF _)) rfl trivial|exact CQ (X:=True) rfl rfl (CD (z:=4) AB AB (hl.get 2 rfl) rfl) (GR rfl (BS (BK _ _) (BS (BK _ _) (BS (BK _ _) (BS (BK _ _) GG))))) rfl trivial),?_⟩)))),?_⟩
  refine zg ?_
  refine Hs hl 0 rfl rfl rfl rfl rfl rfl rfl AB rfl ?_;intro S1 hl;refine⟨HT (E0 (E0 ((by repeat (first|exact trivial|refine⟨(by first|exact CQ (X:=True) rfl rfl (C4 AB (hl.get 2 rfl) rfl) (Dt (BK _ _)) rfl trivial|exact CQ (X:=True) rfl rfl (C4 AB (hl.get 2 rfl) rfl) (Dt (GF _)) rfl trivial|exact CQ (X:=True) rfl rfl (CD (z:=4) AB AB (hl.get 2 rfl) rfl) (GR rfl (BS (BK _ _) (BS (BK _ _) (BS (BK _ _) (BS (BK _ _) GG))))) rfl trivial),?_⟩))))),?_⟩
  refine zg ?_
  refine Hs hl 0 rfl rfl rfl rfl rfl rfl rfl AB rfl ?_;intro S1 hl;refine⟨HT (E0 (E0 (E0 ((by repeat (first|exact trivial|refine⟨(by first|exact CQ (X:=True) rfl rfl (C4 AB (hl.get 2 rfl) rfl) (Dt (BK _ _)) rfl trivial|exact CQ (X:=True) rfl rfl (C4 AB (hl.get 2 rfl) rfl) (Dt (GF _)) rfl trivial|exact CQ (X:=True) rfl rfl (CD (z:=4) AB AB (hl.get 2 rfl) rfl) (GR rfl (BS (BK _ _) (BS (BK _ _) (BS (BK _ _) (BS (BK _ _) GG))))) rfl trivial),?_⟩)))))),?_⟩
  refine zg ?_
  refine Hs hl 0 rfl rfl rfl rfl rfl rfl rfl AB rfl ?_;intro S1 hl;refine⟨HT (E0 (E0 (E0 (E0 ((by repeat (first|exact trivial|refine⟨(by first|exact CQ (X:=True) rfl rfl (C4 AB (hl.get 2 rfl) rfl) (Dt (BK _ _)) rfl trivial|exact CQ (X:=True) rfl rfl (C4 AB (hl.get 2 rfl) rfl) (Dt (GF _)) rfl trivial|exact CQ (X:=True) rfl rfl (CD (z:=4) AB AB (hl.get 2 rfl) rfl) (GR rfl (BS (BK _ _) (BS (BK _ _) (BS (BK _ _) (BS (BK _ _) GG))))) rfl trivial),?_⟩))))))),?_⟩
  refine zg ?_
  refine Hs hl 0 rfl rfl rfl rfl rfl rfl rfl AB rfl ?_;intro S1 hl;refine⟨HT (E0 (E0 (E0 (E0 (E0 ((by repeat (first|exact trivial|refine⟨(by first|exact CQ (X:=True) rfl rfl (C4 AB (hl.get 2 rfl) rfl) (Dt (BK _ _)) rfl trivial|exact CQ (X:=True) rfl rfl (C4 AB (hl.get 2 rfl) rfl) (Dt (GF _)) rfl trivial|exact CQ (X:=True) rfl rfl (CD (z:=4) AB AB (hl.get 2 rfl) rfl) (GR rfl (BS (BK _ _) (BS (BK _ _) (BS (BK _ _) (BS (BK _ _) GG))))) rfl trivial),?_⟩)))))))),?_⟩
  refine zg ?_;refine CN hl 1 rfl rfl rfl rfl rfl rfl rfl AB rfl ?_;intro S1 hl;refine zg ?_
  refine BA (Bm rfl (CD (z:=17) AB AB (hl.get 1 rfl) rfl) rfl) ⟨hl.AD,by rcases EX k1 k2 with hk|hk|hk|hk|hk|hk|hk|hk|hk|hk|hk|hk<;>first|(rw[N2 hk];rfl)|(exfalso;simp[hk]at FA DG h9)⟩
 refine zg ?_
 constructor<;>intro EK
 ·
  refine BC (idx:=[0,1,2,3,4,5,6,7]) rfl AB AB ?_;refine zg ?_
  refine Hs hl 0 rfl rfl rfl rfl rfl rfl rfl AB rfl ?_;intro S1 hl;refine⟨HT ((by repeat (first|exact trivial|refine⟨(by first|exact CQ (X:=True) rfl rfl (C4 AB (hl.get 2 rfl) rfl) (Dt (BK _ _)) rfl trivial|exact CQ (X:=True) rfl rfl (C4 AB (hl.get 2 rfl) rfl) (Dt (GF _)) rfl trivial|exact CQ (X:=True) rfl rfl (CD (z:=4) AB AB (hl.get 2 rfl) rfl) (GR rfl (BS (BK _ _) (BS (BK _ _) (BS (BK _ _) (BS (BK _ _) GG))))) rfl trivial),?_⟩))),?_⟩
  refine zg ?_
  refine Hs hl 0 rfl rfl rfl rfl rfl rfl rfl AB rfl ?_;intro S1 hl;refine⟨HT (E0 ((by repeat (first|exact trivial|refine⟨(by first|exact CQ (X:=True) rfl rfl (C4 AB (hl.get 2 rfl) rfl) (Dt (BK _ _)) rfl trivial|exact CQ (X:=True) rfl rfl (C4 AB (hl.get 2 rfl) rfl) (Dt (GF _)) rfl trivial|exact CQ (X:=True) rfl rfl (CD (z:=4) AB AB (hl.get 2 rfl) rfl) (GR rfl (BS (BK _ _) (BS (BK _ _) (BS (BK _ _) (BS (BK _ _) GG))))) rfl trivial),?_⟩)))),?_⟩
  refine zg ?_;refine CN hl 1 rfl rfl rfl rfl rfl rfl rfl AB rfl ?_;intro S1 hl;refine zg ?_
  refine BA (Bm rfl (CD (z:=17) AB AB (hl.get 1 rfl) rfl) rfl) ⟨hl.AD,by rcases EX k1 k2 with hk|hk|hk|hk|hk|hk|hk|hk|hk|hk|hk|hk<;>first|(rw[N2 hk];rfl)|(exfalso;simp[hk]at EK FA DG h9)⟩
 refine zg ?_
 constructor<;>intro DP
 ·
  refine BC (idx:=[0,1,2,3,4,5,6,7]) rfl AB AB ?_;refine zg ?_
  refine Hs hl 0 rfl rfl rfl rfl rfl rfl rfl AB rfl ?_;intro S1 hl;refine⟨HT ((by repeat (first|exact trivial|refine⟨(by first|exact CQ (X:=True) rfl rfl (C4 AB (hl.get 2 rfl) rfl) (Dt (BK _ _)) rfl trivial|exact CQ (X:=True) rfl rfl (C4 AB (hl.get 2 rfl) rfl) (Dt (GF _)) rfl trivial|exact CQ (X:=True) rfl rfl (CD (z:=4) AB AB (hl.get 2 rfl) rfl) (GR rfl (BS (BK _ _) (BS (BK _ _) (BS (BK _ _) (BS (BK _ _) GG))))) rfl trivial),?_⟩))),?_⟩
  refine zg ?_
  refine Hs hl 0 rfl rfl rfl rfl rfl rfl rfl AB rfl ?_;intro S1 hl;refine⟨HT (E0 ((by repeat (first|exact trivial|refine⟨(by first|exact CQ (X:=True) rfl rfl (C4 AB (hl.get 2 rfl) rfl) (Dt (BK _ _)) rfl trivial|exact CQ (X:=True) rfl rfl (C4 AB (hl.get 2 rfl) rfl) (Dt (GF _)) rfl trivial|exact CQ (X:=True) rfl rfl (CD (z:=4) AB AB (hl.get 2 rfl) rfl) (GR rfl (BS (BK _ _) (BS (BK _ _) (BS (BK _ _) (BS (BK _ _) GG))))) rfl trivial),?_⟩)))),?_⟩
  refine zg ?_;refine CN hl 1 rfl rfl rfl rfl rfl rfl rfl AB rfl ?_;intro S1 hl;refine zg ?_
  refine BA (Bm rfl (CD (z:=17) AB AB (hl.get 1 rfl) rfl) rfl) ⟨hl.AD,by rcases EX k1 k2 with hk|hk|hk|hk|hk|hk|hk|hk|hk|hk|hk|hk<;>first|(rw[N2 hk];rfl)|(exfalso;simp[hk]at DP EK FA DG h9)⟩
 refine zg ?_
 constructor<;>intro EV
 ·
  refine zg ?_;refine CN hl 0 rfl rfl rfl rfl rfl rfl rfl AB rfl ?_;intro S1 hl;refine zg ?_;refine CN hl 1 rfl rfl rfl rfl rfl rfl rfl AB rfl ?_;intro S1 hl;refine zg ?_
  refine BA (Bm rfl (CD (z:=17) AB AB (hl.get 1 rfl) rfl) rfl) ⟨hl.AD,by rcases EX k1 k2 with hk|hk|hk|hk|hk|hk|hk|hk|hk|hk|hk|hk<;>first|(rw[N2 hk];rfl)|(exfalso;simp[hk]at EV DP EK FA DG h9)⟩
 refine zg ?_
 constructor<;>intro GH
 ·
  refine Ar rfl ?_;refine Yn rfl (congrArg (fun b=>some (Value.bool b)) GH) ?_;refine zg ?_;refine CN hl 0 rfl rfl rfl rfl rfl rfl rfl AB rfl ?_;intro S1 hl;refine zg ?_;refine CN hl 1 rfl rfl rfl rfl rfl rfl rfl AB rfl ?_;intro S1 hl;refine zg ?_
  refine BA (Bm rfl (CD (z:=17) AB AB (hl.get 1 rfl) rfl) rfl) ⟨hl.AD,by rcases EX k1 k2 with hk|hk|hk|hk|hk|hk|hk|hk|hk|hk|hk|hk<;>first|(rw[N2 hk];rfl)|(exfalso;simp[hk]at GH EV DP EK FA DG h9)⟩
 refine zS ?_;refine DQ rfl rfl (fun gp=>?_) (fun gp=>?_)
 ·
  refine zg ?_;refine CN hl 0 rfl rfl rfl rfl rfl rfl rfl AB rfl ?_;intro S1 hl;refine zg ?_;refine CN hl 1 rfl rfl rfl rfl rfl rfl rfl AB rfl ?_;intro S1 hl;refine zg ?_
  refine BA (Bm rfl (CD (z:=17) AB AB (hl.get 1 rfl) rfl) rfl) ⟨hl.AD,by rcases EX k1 k2 with hk|hk|hk|hk|hk|hk|hk|hk|hk|hk|hk|hk<;>first|(rw[N2 hk];rfl)|(exfalso;simp[hk]at gp GH EV DP EK FA DG h9)⟩
 refine zg ?_;refine CN hl 1 rfl rfl rfl rfl rfl rfl rfl AB rfl ?_;intro S1 hl;refine zg ?_
 refine BA (Bm rfl (CD (z:=17) AB AB (hl.get 1 rfl) rfl) rfl) ⟨hl.AD,by rcases EX k1 k2 with hk|hk|hk|hk|hk|hk|hk|hk|hk|hk|hk|hk<;>first|(rw[N2 hk];rfl)|(exfalso;simp[hk]at gp GH EV DP EK FA DG h9)⟩
end Go.Proofs.YtmfphenhpkgidaaGreatDoor
namespace Go.Proofs.YtmfphenhpkgidaaGreatDoor
open Go.Cm Go
set_option maxRecDepth 100000
variable{S:St}
noncomputable def c91:Code:=Tryz.f91.body.getD .skip
theorem AOl(s:Sg)(k1:1≤s.kind)(k2:s.kind≤12):CC Tryz.prog KK 91 [s.v] S (fun v S'=>AL S S'∧v= .bool (Au s (ub s.kind 0) (ub s.kind 1) (ub s.kind 2) (ub s.kind 4) (ub s.kind 10) (ub s.kind 11))):=by
 refine Ce (c:=c91) (n:=84) Tryz.func91 rfl rfl rfl AB rfl rfl ?_
 have hl:=BE.start S
 refine zg ?_;refine bL hl fun B1 S1 hl=>?_;refine zg ?_
 constructor<;>intro h5
 ·
  refine zg ?_
  refine zc hl rfl (JB _ _ _) ?_;rintro v S1 AM rfl hl
  refine zg ?_;refine AZ (d:=10) rfl (fun Bs=>?_) (fun Bs=>?_)
  ·
   refine zg ?_
   refine zc hl rfl (JB _ _ _) ?_;rintro v S1 AM rfl hl
   refine zg ?_;refine AZ (d:=15) rfl (fun Bo=>?_) (fun Bo=>?_)
   ·
    refine zg ?_
    refine zc hl rfl (JB _ _ _) ?_;rintro v S1 AM rfl hl
    refine zg ?_
    refine AR ((z1 rfl ⟨hl.AD,congrArg Value.bool (by rcases EX k1 k2 with hk|hk|hk|hk|hk|hk|hk|hk|hk|hk|hk|hk<;>first|(exfalso;simp[hk]at Bo Bs h5;done)|(rw[OF hk];unfold Au;simp only[hk,Bo,Bs,Ag,Int.reduceBEq];done)|(rw[OF hk];unfold Au;simp[hk,Bo,Bs];done)|(rw[OF hk];unfold Au;simp only[Bo,Bs];simp[hk];done))⟩))
   refine zg ?_
   refine AR ((z1 rfl ⟨hl.AD,congrArg Value.bool (by rcases EX k1 k2 with hk|hk|hk|hk|hk|hk|hk|hk|hk|hk|hk|hk<;>first|(exfalso;simp[hk]at Bo Bs h5;done)|(rw[OF hk];unfold Au;simp only[hk,Bo,Bs,Ag,Int.reduceBEq];done)|(rw[OF hk];unfold Au;simp[hk,Bo,Bs];done)|(rw[OF hk];unfold Au;simp only[Bo,Bs];simp[hk];done))⟩))
  refine zg ?_
  refine AR ((z1 rfl ⟨hl.AD,congrArg Value.bool (by rcases EX k1 k2 with hk|hk|hk|hk|hk|hk|hk|hk|hk|hk|hk|hk<;>first|(exfalso;simp[hk]at Bs h5;done)|(rw[OF hk];unfold Au;simp only[hk,Bs,Ag,Int.reduceBEq];done)|(rw[OF hk];unfold Au;simp[hk,Bs];done)|(rw[OF hk];unfold Au;simp only[Bs];simp[hk];done))⟩))
 refine zg ?_
 constructor<;>intro Cq
 ·
  refine zg ?_
  refine zc hl rfl (JB _ _ _) ?_;rintro v S1 AM rfl hl
  refine zg ?_
  refine AR ((z1 rfl ⟨hl.AD,congrArg Value.bool (by rcases EX k1 k2 with hk|hk|hk|hk|hk|hk|hk|hk|hk|hk|hk|hk<;>first|(exfalso;simp[hk]at Cq h5;done)|(rw[nG hk];unfold Au;simp only[hk,Ag,Int.reduceBEq];done)|(rw[nG hk];unfold Au;simp[hk,hk];done)|(rw[nG hk];unfold Au;simp only[hk];simp[hk];done))⟩))
 refine zg ?_
 constructor<;>intro C'
 ·
  refine zg ?_
  refine zc hl rfl (JB _ _ _) ?_;rintro v S1 AM rfl hl
  refine zg ?_;refine AZ (d:=30) rfl (fun CJ=>?_) (fun CJ=>?_)
  ·
   refine zg ?_
   refine zc hl rfl (JB _ _ _) ?_;rintro v S1 AM rfl hl
   refine zg ?_;refine AZ (d:=35) rfl (fun Dz=>?_) (fun Dz=>?_)
   ·
    refine zg ?_
    refine zc hl rfl (JB _ _ _) ?_;rintro v S1 AM rfl hl
    refine zg ?_
    refine AR ((z1 rfl ⟨hl.AD,congrArg Value.bool (by rcases EX k1 k2 with hk|hk|hk|hk|hk|hk|hk|hk|hk|hk|hk|hk<;>first|(exfalso;simp[hk]at Dz CJ C' Cq h5;done)|(rw[OG hk];unfold Au;simp only[hk,Dz,CJ,Ag,Int.reduceBEq];done)|(rw[OG hk];unfold Au;simp[hk,Dz,CJ];done)|(rw[OG hk];unfold Au;simp only[Dz,CJ];simp[hk];done))⟩))
   refine zg ?_
   refine AR ((z1 rfl ⟨hl.AD,congrArg Value.bool (by rcases EX k1 k2 with hk|hk|hk|hk|hk|hk|hk|hk|hk|hk|hk|hk<;>first|(exfalso;simp[hk]at Dz CJ C' Cq h5;done)|(rw[OG hk];unfold Au;simp only[hk,Dz,CJ,Ag,Int.reduceBEq];done)|(rw[OG hk];unfold Au;simp[hk,Dz,CJ];done)|(rw[OG hk];unfold Au;simp only[Dz,CJ];simp[hk];done))⟩))
  refine zg ?_
  refine AR ((z1 rfl ⟨hl.AD,congrArg Value.bool (by rcases EX k1 k2 with hk|hk|hk|hk|hk|hk|hk|hk|hk|hk|hk|hk<;>first|(exfalso;simp[hk]at CJ C' Cq h5;done)|(rw[OG hk];unfold Au;simp only[hk,CJ,Ag,Int.reduceBEq];done)|(rw[OG hk];unfold Au;simp[hk,CJ];done)|(rw[OG hk];unfold Au;simp only[CJ];simp[hk];done))⟩))
 refine zg ?_
 constructor<;>intro DO
 ·
  refine zg ?_
  refine zc hl rfl (JB _ _ _) ?_;rintro v S1 AM rfl hl
  refine zg ?_;refine AZ (d:=45) rfl (fun DB=>?_) (fun DB=>?_)
  ·
   refine zg ?_
   refine zc hl rfl (JB _ _ _) ?_;rintro v S1 AM rfl hl
   refine zg ?_
   refine AR ((z1 rfl ⟨hl.AD,congrArg Value.bool (by rcases EX k1 k2 with hk|hk|hk|hk|hk|hk|hk|hk|hk|hk|hk|hk<;>first|(exfalso;simp[hk]at DB DO C' Cq h5;done)|(rw[VE hk];unfold Au;simp only[hk,DB,Ag,Int.reduceBEq];done)|(rw[VE hk];unfold Au;simp[hk,DB];done)|(rw[VE hk];unfold Au;simp only[DB];simp[hk];done))⟩))
  refine zg ?_
  refine AR ((z1 rfl ⟨hl.AD,congrArg Value.bool (by rcases EX k1 k2 with hk|hk|hk|hk|hk|hk|hk|hk|hk|hk|hk|hk<;>first|(exfalso;simp[hk]at DB DO C' Cq h5;done)|(rw[VE hk];unfold Au;simp only[hk,DB,Ag,Int.reduceBEq];done)|(rw[VE hk];unfold Au;simp[hk,DB];done)|(rw[VE hk];unfold Au;simp only[DB];simp[hk];done))⟩))
 refine zg ?_
 constructor<;>intro H7
 ·
  refine zg ?_;refine AZ (d:=56) rfl (fun DP=>?_) (fun DP=>?_)
  ·
   refine zg ?_
   refine zc hl rfl (JB _ _ _) ?_;rintro v S1 AM rfl hl
   refine zg ?_
   refine AR ((z1 rfl ⟨hl.AD,congrArg Value.bool (by rcases EX k1 k2 with hk|hk|hk|hk|hk|hk|hk|hk|hk|hk|hk|hk<;>first|(exfalso;simp[hk]at DP H7 DO C' Cq h5;done)|(rw[Hq hk];unfold Au;simp only[hk,Ag,Int.reduceBEq];done)|(rw[Hq hk];unfold Au;simp[hk];done)|(rw[Hq hk];unfold Au;simp only[DP];simp[hk];done)|(rw[Hq hk];unfold Au;simp only[bne,hk,DP,Ag,Int.reduceBEq];done))⟩))
  refine zg ?_;refine AZ (d:=62) rfl (fun G0=>?_) (fun G0=>?_)
  ·
   refine zg ?_
   refine zc hl rfl (JB _ _ _) ?_;rintro v S1 AM rfl hl
   refine zg ?_
   refine AR ((z1 rfl ⟨hl.AD,congrArg Value.bool (by rcases EX k1 k2 with hk|hk|hk|hk|hk|hk|hk|hk|hk|hk|hk|hk<;>first|(exfalso;simp[hk]at G0 DP H7 DO C' Cq h5;done)|(rw[Hq hk];unfold Au;simp only[hk,Ag,Int.reduceBEq];done)|(rw[Hq hk];unfold Au;simp[hk];done)|(rw[Hq hk];unfold Au;simp only[G0,DP];simp[hk];done)|(rw[Hq hk];unfold Au;simp only[bne,hk,G0,DP,Ag,Int.reduceBEq];done))⟩))
  refine zg ?_;refine AZ (d:=68) rfl (fun Gd=>?_) (fun Gd=>?_)
  ·
   refine zg ?_
   refine zc hl rfl (JB _ _ _) ?_;rintro v S1 AM rfl hl
   refine zg ?_
   refine AR ((z1 rfl ⟨hl.AD,congrArg Value.bool (by rcases EX k1 k2 with hk|hk|hk|hk|hk|hk|hk|hk|hk|hk|hk|hk<;>first|(exfalso;simp[hk]at Gd G0 DP H7 DO C' Cq h5;done)|(rw[Hq hk];unfold Au;simp only[hk,Ag,Int.reduceBEq];done)|(rw[Hq hk];unfold Au;simp[hk];done)|(rw[Hq hk];unfold Au;simp only[Gd,G0,DP];simp[hk];done)|(rw[Hq hk];unfold Au;simp only[bne,hk,Gd,G0,DP,Ag,Int.reduceBEq];done))⟩))
  refine zg ?_
  refine AR ((z1 rfl ⟨hl.AD,congrArg Value.bool (by rcases EX k1 k2 with hk|hk|hk|hk|hk|hk|hk|hk|hk|hk|hk|hk<;>first|(exfalso;simp[hk]at Gd G0 DP H7 DO C' Cq h5;done)|(rw[Hq hk];unfold Au;simp only[hk,Ag,Int.reduceBEq];done)|(rw[Hq hk];unfold Au;simp[hk];done)|(rw[Hq hk];unfold Au;simp only[Gd,G0,DP];simp[hk];done)|(rw[Hq hk];unfold Au;simp only[bne,hk,Gd,G0,DP,Ag,Int.reduceBEq];done))⟩))
 refine zg ?_
 constructor<;>intro Qr
 ·
  refine zg ?_
  refine zc hl rfl (JB _ _ _) ?_;rintro v S1 AM rfl hl
  refine zg ?_
  refine AR ((z1 rfl ⟨hl.AD,congrArg Value.bool (by rcases EX k1 k2 with hk|hk|hk|hk|hk|hk|hk|hk|hk|hk|hk|hk<;>first|(exfalso;simp[hk]at Qr H7 DO C' Cq h5;done)|(rw[nJ hk];unfold Au;simp only[hk,Ag,Int.reduceBEq];done)|(rw[nJ hk];unfold Au;simp[hk,hk];done)|(rw[nJ hk];unfold Au;simp only[hk];simp[hk];done))⟩))
 refine zg ?_
 constructor<;>intro O1
 ·
  refine zg ?_
  refine zc hl rfl (JB _ _ _) ?_;rintro v S1 AM rfl hl
  refine zg ?_
  refine AR ((z1 rfl ⟨hl.AD,congrArg Value.bool (by rcases EX k1 k2 with hk|hk|hk|hk|hk|hk|hk|hk|hk|hk|hk|hk<;>first|(exfalso;simp[hk]at O1 Qr H7 DO C' Cq h5;done)|(rw[nC hk];unfold Au;simp only[hk,Ag,Int.reduceBEq];done)|(rw[nC hk];unfold Au;simp[hk,hk];done)|(rw[nC hk];unfold Au;simp only[hk];simp[hk];done))⟩))
 refine zg ?_
 refine y1 rfl ⟨hl.AD,congrArg Value.bool (by rcases EX k1 k2 with hk|hk|hk|hk|hk|hk|hk|hk|hk|hk|hk|hk<;>first|(exfalso;simp[hk]at O1 Qr H7 DO C' Cq h5;done)|(rw[nH hk];unfold Au;simp only[hk,Ag,Int.reduceBEq];done)|(rw[nH hk];unfold Au;simp[hk,hk];done)|(rw[nH hk];unfold Au;simp only[hk];simp[hk];done)|(rw[nI hk];unfold Au;simp only[hk,Ag,Int.reduceBEq];done)|(rw[nI hk];unfold Au;simp[hk,hk];done)|(rw[nI hk];unfold Au;simp only[hk];simp[hk];done)|(rw[nK hk];unfold Au;simp only[hk,Ag,Int.reduceBEq];done)|(rw[nK hk];unfold Au;simp[hk,hk];done)|(rw[nK hk];unfold Au;simp only[hk];simp[hk];done)|(rw[nD hk];unfold Au;simp only[hk,Ag,Int.reduceBEq];done)|(rw[nD hk];unfold Au;simp[hk,hk];done)|(rw[nD hk];unfold Au;simp only[hk];simp[hk];done)|(rw[nE hk];unfold Au;simp only[hk,Ag,Int.reduceBEq];done)|(rw[nE hk];unfold Au;simp[hk,hk];done)|(rw[nE hk];unfold Au;simp only[hk];simp[hk];done))⟩
end Go.Proofs.YtmfphenhpkgidaaGreatDoor
namespace Go.Proofs.YtmfphenhpkgidaaGreatDoor
open Go.Cm Go
set_option maxRecDepth 100000
variable{S:St}
theorem AJB{s:Sg}(h:(decide (s.kind<1)||decide (s.kind>12))=true):one s=8:=by unfold one;rw[h];rfl
theorem AJC{s:Sg}(h:(decide (s.kind<1)||decide (s.kind>12))=false)(h2:(!decide (II s (ub s.kind 0) (ub s.kind 1) (ub s.kind 2) (ub s.kind 3) (ub s.kind 4) (ub s.kind 5) (ub s.kind 6) (ub s.kind 7) (ub s.kind 8) (ub s.kind 9) (ub s.kind 10) (ub s.kind 11)=s))=true):one s=3:=by
 have h2':(!decide (s=II s (ub s.kind 0) (ub s.kind 1) (ub s.kind 2) (ub s.kind 3) (ub s.kind 4) (ub s.kind 5) (ub s.kind 6) (ub s.kind 7) (ub s.kind 8) (ub s.kind 9) (ub s.kind 10) (ub s.kind 11)))=true:=by rw[←h2];congr 1;simp only[eq_comm]
 unfold one;rw[h,h2'];rfl
theorem bu{s:Sg}(h2:(!decide (II s (ub s.kind 0) (ub s.kind 1) (ub s.kind 2) (ub s.kind 3) (ub s.kind 4) (ub s.kind 5) (ub s.kind 6) (ub s.kind 7) (ub s.kind 8) (ub s.kind 9) (ub s.kind 10) (ub s.kind 11)=s))=false):(!decide (s=II s (ub s.kind 0) (ub s.kind 1) (ub s.kind 2) (ub s.kind 3) (ub s.kind 4) (ub s.kind 5) (ub s.kind 6) (ub s.kind 7) (ub s.kind 8) (ub s.kind 9) (ub s.kind 10) (ub s.kind 11)))=false:=by rw[←h2];congr 1;simp only[eq_comm]
theorem AJD{s:Sg}(h:(decide (s.kind<1)||decide (s.kind>12))=false)(h2:(!decide (II s (ub s.kind 0) (ub s.kind 1) (ub s.kind 2) (ub s.kind 3) (ub s.kind 4) (ub s.kind 5) (ub s.kind 6) (ub s.kind 7) (ub s.kind 8) (ub s.kind 9) (ub s.kind 10) (ub s.kind 11)=s))=false)(h3:(ub s.kind 7&&(Gi s.mx s.md s.tm s.pr !=0))=true):one s=12:=by
 unfold one;rw[h,bu h2,h3];rfl
theorem AJE{s:Sg}(h:(decide (s.kind<1)||decide (s.kind>12))=false)(h2:(!decide (II s (ub s.kind 0) (ub s.kind 1) (ub s.kind 2) (ub s.kind 3) (ub s.kind 4) (ub s.kind 5) (ub s.kind 6) (ub s.kind 7) (ub s.kind 8) (ub s.kind 9) (ub s.kind 10) (ub s.kind 11)=s))=false)(h3:(ub s.kind 7&&(Gi s.mx s.md s.tm s.pr !=0))=false)(h4:(!Au s (ub s.kind 0) (ub s.kind 1) (ub s.kind 2) (ub s.kind 4) (ub s.kind 10) (ub s.kind 11))=true):one s=2:=by
 unfold one;rw[h,bu h2,h3,h4];rfl
theorem AJF{s:Sg}(h:(decide (s.kind<1)||decide (s.kind>12))=false)(h2:(!decide (II s (ub s.kind 0) (ub s.kind 1) (ub s.kind 2) (ub s.kind 3) (ub s.kind 4) (ub s.kind 5) (ub s.kind 6) (ub s.kind 7) (ub s.kind 8) (ub s.kind 9) (ub s.kind 10) (ub s.kind 11)=s))=false)(h3:(ub s.kind 7&&(Gi s.mx s.md s.tm s.pr !=0))=false)(h4:(!Au s (ub s.kind 0) (ub s.kind 1) (ub s.kind 2) (ub s.kind 4) (ub s.kind 10) (ub s.kind 11))=false)(h5:(s.Co&&s.last)=true):one s=3:=by
 unfold one;rw[h,bu h2,h3,h4,h5];rfl
theorem AJG{s:Sg}(h:(decide (s.kind<1)||decide (s.kind>12))=false)(h2:(!decide (II s (ub s.kind 0) (ub s.kind 1) (ub s.kind 2) (ub s.kind 3) (ub s.kind 4) (ub s.kind 5) (ub s.kind 6) (ub s.kind 7) (ub s.kind 8) (ub s.kind 9) (ub s.kind 10) (ub s.kind 11)=s))=false)(h3:(ub s.kind 7&&(Gi s.mx s.md s.tm s.pr !=0))=false)(h4:(!Au s (ub s.kind 0) (ub s.kind 1) (ub s.kind 2) (ub s.kind 4) (ub s.kind 10) (ub s.kind 11))=false)(h5:(s.Co&&s.last)=false):one s=0:=by
 unfold one;rw[h,bu h2,h3,h4,h5];rfl
noncomputable def c69:Code:=Tryz.f69.body.getD .skip
theorem AAj(s:Sg):CC Tryz.prog KK 69 [s.v] S (fun v S'=>AL S S'∧v= .int .i64 (one s)):=by
 refine Ce (c:=c69) (n:=38) Tryz.func69 rfl rfl rfl AB rfl rfl ?_
 have hl:=BE.start S
 refine zg ?_;refine bL hl fun B1 S1 hl=>?_;refine zA ?_;refine AG rfl ?_;refine Az rfl ?_;refine AG rfl (F' hl [(3,.bool (decide (s.kind<1)||decide (s.kind>12))),(1,ptrTo B1 0)] ?_ ?_)
 ·
  refine zg ?_;refine AZ (d:=7) rfl (fun h7=>?_) (fun h7=>?_)
  ·
   refine zg ?_
   exact⟨rfl,⟨bl (by first|(simp[h7];done)|(simp only[h7,Ag])),rfl,trivial⟩,hl⟩
  refine zg ?_
  exact⟨rfl,⟨bl (by first|(simp[h7];done)|(simp only[h7,Ag])),rfl,trivial⟩,hl⟩
 intro S1 hl
 refine zg ?_
 constructor<;>intro h3
 ·
  refine zg ?_
  refine AR ((z1 rfl ⟨hl.AD,congrArg (Value.int .i64) (AJB h3).symm⟩))
 have k1:1≤s.kind:=by simp at h3;omega
 have k2:s.kind≤12:=by simp at h3;omega
 refine zg ?_;refine BC (idx:=[0,2,1,3,4]) rfl AB AB ?_;refine zg ?_
 refine zp hl rfl (AOk s k1 k2) ?_;rintro v S1 AM rfl hl;refine⟨HT ⟨CQ (X:=True) rfl rfl (CD (z:=17) AB AB (hl.get 0 rfl) rfl) (GR rfl (V9 s)) rfl trivial,CQ (X:=True) rfl rfl (CD (z:=17) AB AB (hl.get 0 rfl) rfl) (GR rfl (V9 s)) rfl trivial,trivial⟩,?_⟩
 refine pr rfl (Ao rfl rfl rfl (Uy _ _ (II s (ub s.kind 0) (ub s.kind 1) (ub s.kind 2) (ub s.kind 3) (ub s.kind 4) (ub s.kind 5) (ub s.kind 6) (ub s.kind 7) (ub s.kind 8) (ub s.kind 9) (ub s.kind 10) (ub s.kind 11)) s)) ?_;refine zg ?_
 constructor<;>intro Cf
 ·
  refine zg ?_
  refine AR ((z1 rfl ⟨hl.AD,congrArg (Value.int .i64) (AJC h3 Cf).symm⟩))
 refine AG rfl (F' hl [(17,.bool (ub s.kind 7&&(Gi s.mx s.md s.tm s.pr !=0))),(1,ptrTo B1 0)] ?_ ?_)
 ·
  refine zg ?_;refine AZ (d:=21) rfl (fun Bf=>?_) (fun Bf=>?_)
  ·
   refine zg ?_
   refine zc hl rfl (YV _ _ _ _) ?_;rintro v S1 AM rfl hl
   refine zg ?_
   exact⟨rfl,⟨bl (by rw[ub7 k1 k2];simp only[Bf,Ag]),rfl,trivial⟩,hl⟩
  refine zg ?_
  exact⟨rfl,⟨bl (by rw[ub7 k1 k2];simp only[Bf,Ag]),rfl,trivial⟩,hl⟩
 intro S1 hl
 refine zg ?_
 constructor<;>intro Dl
 ·
  refine zg ?_
  refine AR ((z1 rfl ⟨hl.AD,congrArg (Value.int .i64) (AJD h3 Cf Dl).symm⟩))
 refine zg ?_
 refine zc hl rfl (AOl s k1 k2) ?_;rintro v S1 AM rfl hl
 refine rr rfl (BY rfl rfl rfl) ?_;refine zg ?_
 constructor<;>intro CX
 ·
  refine zg ?_
  refine AR ((z1 rfl ⟨hl.AD,congrArg (Value.int .i64) (AJE h3 Cf Dl CX).symm⟩))
 refine AG rfl (F' hl [(31,.bool (s.Co&&s.last)),(1,ptrTo B1 0)] ?_ ?_)
 ·
  refine zg ?_;refine AZ (d:=34) rfl (fun E2=>?_) (fun E2=>?_)
  ·
   refine zg ?_
   exact⟨rfl,⟨bl (by first|(simp[E2];done)|(simp only[E2,Ag])),rfl,trivial⟩,hl⟩
  refine zg ?_
  exact⟨rfl,⟨bl (by first|(simp[E2];done)|(simp only[E2,Ag])),rfl,trivial⟩,hl⟩
 intro S1 hl
 refine zg ?_
 constructor<;>intro Gy
 ·
  refine zg ?_
  refine AR ((z1 rfl ⟨hl.AD,congrArg (Value.int .i64) (AJF h3 Cf Dl CX Gy).symm⟩))
 refine zg ?_
 refine y1 rfl ⟨hl.AD,congrArg (Value.int .i64) (AJG h3 Cf Dl CX Gy).symm⟩
theorem l6(c:Int):((!(decide (97≤c)&&decide (c≤122))&&!(decide (48≤c)&&decide (c≤57)))&&(c !=45))=!Gn c:=by
 have e1:decide (c<97)=!decide (97≤c):=by rw[Bool.eq_iff_iff];simp
 have e2:decide (c>122)=!decide (c≤122):=by rw[Bool.eq_iff_iff];simp
 have e3:decide (c<48)=!decide (48≤c):=by rw[Bool.eq_iff_iff];simp
 have e4:decide (c>57)=!decide (c≤57):=by rw[Bool.eq_iff_iff];simp
 unfold Gn
 rw[e1,e2,e3,e4,Bool.not_not]
 cases decide (97≤c)<;>cases decide (c≤122)<;>cases decide (48≤c)<;>cases decide (c≤57)<;>cases (c !=45)<;>rfl
theorem zb:∀l:List UInt8,GQ l []=((l.length:Int)==0)
 | []=>rfl
 |a::l=>by
  show false=_
  symm
  simp
  omega
theorem xx{l:List UInt8}(h:(!GQ l [])=true):((l.length:Int)==0)=false:=by
 rw[zb]at h
 cases hb:((l.length:Int)==0)with
 |true=>rw[hb]at h;cases h
 |false=>rfl
theorem AIu{l:List UInt8}(h0:((l.length:Int)==0)=false)(h1:decide ((l.length:Int)≤20)=true)(ha:(l.all fun c=>Gn c.toNat)=true):(decide (97≤H9 l)&&decide (H9 l≤122))=HP l:=by
 have e1:decide (H9 l<97)=!decide (97≤H9 l):=by rw[Bool.eq_iff_iff];simp
 have e2:decide (H9 l>122)=!decide (H9 l≤122):=by rw[Bool.eq_iff_iff];simp
 have e3:decide ((l.length:Int)>20)=false:=by have:=I6 h1;rw[decide_eq_false_iff_not];omega
 unfold HP LS
 rw[h0,e3,e1,e2,ha]
 cases decide (97≤H9 l)<;>cases decide (H9 l≤122)<;>rfl
theorem AIv{l:List UInt8}(h1:decide ((l.length:Int)≤20)=false):false=HP l:=by
 have e3:decide ((l.length:Int)>20)=true:=by have:=Jk h1;rw[decide_eq_true_iff];omega
 unfold HP LS
 rw[e3,Bool.or_true]
 rfl
theorem AIw{l:List UInt8}(h:(!GQ l [])=false):false=HP l:=by
 rw[zb]at h
 have h0:((l.length:Int)==0)=true:=by cases hb:((l.length:Int)==0)with
  |true=>rfl
  |false=>rw[hb]at h;cases h
 unfold HP LS
 rw[h0]
 rfl
noncomputable def c39:Code:=Tryz.f39.body.getD .skip
theorem AAd(s:ByteArray)(hlen:s.data.toList.length≤1000):CC Tryz.prog KK 39 [.string s] S (fun v S'=>AL S S'∧v= .bool (HP s.data.toList)):=by
 refine Ce (c:=c39) (n:=40) Tryz.func39 rfl rfl rfl AB rfl rfl ?_
 have hl:=BE.start S
 refine zS ?_;refine AG rfl ?_;refine zS ?_;refine Az rfl ?_
 -- LOOP
 refine AK (L':=[(3,.int .i64 0),(0,.string s)]) sE ?_
 refine A2 rfl (fun m Le S'=>∃i:Nat,i≤s.data.toList.length∧m=s.data.toList.length-i∧Af [(3,.int .i64 (i:Int)),(0,.string s)] Le∧(∀j,j<i→∀c,nth s.data.toList j=some c→Gn c.toNat=true)∧BE S [S] S' []) ?_ (m:=s.data.toList.length) ⟨0,AA,rfl,sE,fun j hj=>by omega,hl⟩
 clear hl;rintro m Le S' ⟨i,hi,rfl,AH,BI,hl⟩;refine AK AH ?_
 refine AG rfl ?_;refine zS ?_;refine rr rfl (F8 rfl rfl (Uo Tryz.underlying9)) ?_;refine zA ?_;refine zi tt rfl ?_
 constructor<;>intro h7
 ·
  have AN:i<s.data.toList.length:=dT h7
  obtain⟨c,hc⟩:=Ad AN
  refine Ar rfl ?_;refine AG rfl ?_;refine Az rfl ?_;refine AG rfl (F' hl [(27,.bool (!Gn c.toNat)),(3,.int .i64 (i:Int)),(0,.string s)] ?_ ?_)
  ·
   refine zg ?_;refine rr rfl (Pe rfl rfl rfl (RW Tryz.underlying9 AA hc)) ?_
   refine zc hl rfl (AAi _) ?_;rintro v S1 AM rfl hl
   refine rr rfl (BY rfl rfl rfl) ?_;refine zg ?_;refine AZ (d:=15) rfl (fun Bo=>?_) (fun Bo=>?_)
   ·
    refine zg ?_;refine rr rfl (Pe rfl rfl rfl (RW Tryz.underlying9 AA hc)) ?_
    refine zc hl rfl (AOZ _) ?_;rintro v S1 AM rfl hl
    refine rr rfl (BY rfl rfl rfl) ?_;refine zg ?_;refine AZ (d:=22) rfl (fun Dy=>?_) (fun Dy=>?_)
    ·
     refine zg ?_;refine rr rfl (Pe rfl rfl rfl (RW Tryz.underlying9 AA hc)) ?_;refine zg ?_
     exact⟨rfl,⟨bl (by rw[←l6];simp only[Dy,Bo,Ag]),rfl,rfl,trivial⟩,hl⟩
    refine zg ?_
    exact⟨rfl,⟨bl (by rw[←l6];simp only[Dy,Bo,Ag]),rfl,rfl,trivial⟩,hl⟩
   refine zg ?_
   exact⟨rfl,⟨bl (by rw[←l6];simp only[Bo,Ag]),rfl,rfl,trivial⟩,hl⟩
  intro S1 hl
  refine zg ?_
  constructor<;>intro CX
  ·
   refine zg ?_
   refine AR (Ai (Bg (AR ((z1 rfl ⟨hl.AD,congrArg Value.bool (by unfold HP;rw[qU hc (by simpa using CX),Bool.and_false])⟩)))))
  refine Ar rfl ?_;refine xg AB ?_;refine rm rfl ?_;refine rr rfl (Ao rfl rfl rfl rfl) ?_;refine rm rfl ?_;refine Ak rfl ?_
  refine⟨s.data.toList.length-(i+1),AA,i+1,AA,rfl,⟨congrArg some (congrArg (Value.int .i64) (IntWalk.i64_in _ AA)),rfl,trivial⟩,fun j hj y hy=>?_,hl⟩
  rcases Nat.lt_succ_iff_lt_or_eq.1 hj with hj|rfl
  ·exact BI j hj y hy
  rw[hc]at hy;cases hy;simpa using CX
 refine zg ?_;refine AZ (d:=30) rfl (fun CJ=>?_) (fun CJ=>?_)
 ·
  refine zA ?_;refine rr rfl (F8 rfl rfl (Uo Tryz.underlying9)) ?_;refine zA ?_;refine AZ (d:=35) rfl (fun Dz=>?_) (fun Dz=>?_)
  ·
   refine zg ?_;refine rr rfl (Pe rfl rfl rfl (RW Tryz.underlying9 (Int.le_refl 0) (ly (xx CJ)))) ?_
   refine zc hl rfl (AAi _) ?_;rintro v S1 AM rfl hl
   refine zg ?_
   refine y1 rfl ⟨hl.AD,congrArg Value.bool (AIu (xx CJ) Dz (qV fun j hj c hc=>BI j (dF h7) c hc))⟩
  refine zg ?_
  refine y1 rfl ⟨hl.AD,congrArg Value.bool (AIv Dz)⟩
 refine zg ?_
 refine y1 rfl ⟨hl.AD,congrArg Value.bool (AIw CJ)⟩
end Go.Proofs.YtmfphenhpkgidaaGreatDoor
namespace Go.Proofs.YtmfphenhpkgidaaGreatDoor
open Go.Cm Go
set_option maxRecDepth 100000
variable{S:St}
def Mc(x:AP):Int:=bif G8 x then 3 else Fp [] x.AT
noncomputable def c40:Code:=Tryz.f40.body.getD .skip
theorem AOL(a:Option Addr)(cap:Nat)(x:AP)(hn:x.AT.length≤1000)(hv:Ck S (.slice a x.AT.length cap) x.AT):CC Tryz.prog KK 40 [AX [.slice a x.AT.length cap,.bool x.blank]] S (fun v S'=>AL S S'∧v= .int .i64 (Mc x)):=by
 refine Ce (c:=c40) (n:=39) Tryz.func40 rfl rfl rfl AB rfl rfl ?_
 have hl:=BE.start S
 refine zg ?_;refine bL hl fun B1 S1 hl=>?_;refine zA ?_;refine AG rfl ?_;refine AG rfl (F' hl [(12,.bool (G8 x)),(1,ptrTo B1 0)] ?_ ?_)
 ·
  refine zg ?_
  refine zc hl rfl (YT a x.AT.length cap x.blank hn) ?_;rintro v S1 AM rfl hl
  refine zg ?_;refine AZ (d:=8) rfl (fun h8=>?_) (fun h8=>?_)
  ·
   refine zg ?_
   exact⟨rfl,⟨bl (by unfold G8 EM;simp only[h8,Ag]),rfl,trivial⟩,hl⟩
  refine zg ?_
  refine zc hl rfl (YT a x.AT.length cap x.blank hn) ?_;rintro v S1 AM rfl hl
  refine zg ?_
  exact⟨rfl,⟨bl (by unfold G8 EM;simp only[h8,Ag]),rfl,trivial⟩,hl⟩
 intro S1 hl
 refine zg ?_
 constructor<;>intro Cf
 ·
  refine zg ?_
  exact(z1 rfl ⟨hl.AD,congrArg (Value.int .i64) (by unfold Mc;rw[Cf];rfl)⟩)
 refine Ar rfl ?_;refine AG rfl ?_;refine zS ?_;refine Az rfl ?_
 -- LOOP
 refine AK (L':=[(3,.int .i64 0),(1,ptrTo B1 0)]) sE ?_
 refine A2 rfl (fun m Le S'=>∃k:Nat,k≤x.AT.length∧m=x.AT.length-k∧Af [(3,.int .i64 (k:Int)),(1,ptrTo B1 0)] Le∧Fp (x.AT.take k) (x.AT.drop k)=Fp [] x.AT∧BE S [S] S' [(B1,.cells [.slice a x.AT.length cap,.bool x.blank] 49 false true [])]) ?_ (m:=x.AT.length) ⟨0,AA,rfl,sE,rfl,hl⟩
 clear hl;rintro m Le S' ⟨k,hk,rfl,AH,BH,hl⟩;refine AK AH ?_
 refine zg ?_
 constructor<;>intro Dl
 ·
  have AN:k<x.AT.length:=dT Dl
  obtain⟨y,hy⟩:=Ad AN
  obtain⟨b2,o2,EH,ha,_,AQ,Aa⟩:=hv.elem hy
  refine zg ?_
  refine zc hl rfl (AAj y) ?_;rintro v S1 AM rfl hl
  refine zg ?_
  constructor<;>intro CX
  ·
   refine zg ?_
   refine Ai (AR (Ai (Bg (AR ((z1 rfl ⟨hl.AD,congrArg (Value.int .i64) (by unfold Mc;rw[Cf,←BH,C9 hy,z' CX];rfl)⟩))))))
  refine zg ?_
  obtain⟨a3,ZN,PC,jP⟩:=(hv.move (hl.since 0 rfl)).front AN
  refine BC (idx:=[0,1,2,3,4,5,6,7,8,9]) rfl AB AB ?_;refine zg ?_;refine pk rfl (cT rfl rfl rfl rfl rfl PC) ?_;refine zg ?_
  refine zp hl rfl (AOa a3 ZN (x.AT.take k) y (by rw[List.length_take];omega) jP) ?_;rintro v S1 AM rfl hl;refine⟨OM AB,?_⟩
  refine zg ?_
  constructor<;>intro Fh
  ·
   refine zg ?_
   refine AR (Ai (Bg (AR ((z1 rfl ⟨hl.AD,congrArg (Value.int .i64) (by unfold Mc;rw[Cf,←BH,C9 hy,z9 CX Fh];rfl)⟩)))))
  refine Ar rfl ?_;refine xg AB ?_;refine rm rfl ?_;refine rr rfl (Ao rfl rfl rfl rfl) ?_;refine rm rfl ?_;refine Ak rfl ?_
  exact⟨x.AT.length-(k+1),AA,k+1,AA,rfl,⟨congrArg some (congrArg (Value.int .i64) (IntWalk.i64_in _ AA)),rfl,trivial⟩,by rw[oS hy,←YO CX Fh,←C9 hy];exact BH,hl⟩
 refine zg ?_
 refine y1 rfl ⟨hl.AD,congrArg (Value.int .i64) (by unfold Mc;rw[Cf,←BH,List.drop_eq_nil_of_le (dF Dl)];rfl)⟩
theorem AOp{x:AP}{r:List AP}{i:Nat}(h:(Mc x !=0)=true):F9 (x::r) i=(Mc x,(i:Int)):=by
 unfold Mc at *
 cases hb:G8 x with
 |true=>rw[AAn hb];rfl
 |false =>
  rw[hb]at h
  exact oH hb rfl h
theorem AOo{x:AP}{r:List AP}{i:Nat}(h:(Mc x !=0)=false):F9 (x::r) i=F9 r (i+1):=by
 unfold Mc at h
 cases hb:G8 x with
 |true=>rw[hb]at h;cases h
 |false =>
  rw[hb]at h
  refine oI hb ?_
  have h':(Fp [] x.AT !=0)=false:=h
  simpa using h'
noncomputable def c10:Code:=Tryz.f10.body.getD .skip
theorem ANW(nm:ByteArray)(a:Option Addr)(cap:Nat)(L:List AP)(Ch:nm.data.toList.length≤1000)(hn:L.length≤1000)(hs:∀x,x∈L→x.AT.length≤1000)(hv:EG S (.slice a L.length cap) L):CC Tryz.prog KK 10 [AX [.string nm,.slice a L.length cap]] S (fun v S'=>AL S S'∧v=Aw [.int .i64 (DF nm.data.toList L).1,.int .i64 (DF nm.data.toList L).2]):=by
 refine Ce (c:=c10) (n:=31) Tryz.func10 rfl rfl rfl AB rfl rfl ?_
 have hl:=BE.start S
 refine zg ?_;refine bL hl fun B1 S1 hl=>?_;refine zg ?_
 refine zc hl rfl (AAd nm Ch) ?_;rintro v S1 AM rfl hl
 refine rr rfl (BY rfl rfl rfl) ?_;refine zg ?_
 constructor<;>intro h9
 ·
  refine zg ?_
  exact(z2 rfl rfl ⟨hl.AD,FK (by unfold DF;rw[h9];rfl)⟩)
 refine zg ?_
 constructor<;>intro EA
 ·
  refine zg ?_
  exact(z2 rfl rfl ⟨hl.AD,FK (by unfold DF;rw[h9,EA];rfl)⟩)
 refine Ar rfl ?_;refine AG rfl ?_;refine zS ?_;refine Az rfl ?_
 -- LOOP
 have Cz:DF nm.data.toList L=F9 L 0:=by unfold DF;rw[h9,EA];rfl
 refine AK (L':=[(4,.int .i64 0),(1,ptrTo B1 0)]) sE ?_
 refine A2 rfl (fun m Le S'=>∃i:Nat,i≤L.length∧m=L.length-i∧Af [(4,.int .i64 (i:Int)),(1,ptrTo B1 0)] Le∧F9 (L.drop i) i=F9 L 0∧BE S [S] S' [(B1,.cells [.string nm,.slice a L.length cap] 24 false true [])]) ?_ (m:=L.length) ⟨0,AA,rfl,sE,rfl,hl⟩
 clear hl;rintro m Le S' ⟨i,hi,rfl,AH,DI,hl⟩;refine AK AH ?_
 refine zg ?_
 constructor<;>intro Ct
 ·
  have AN:i<L.length:=dT Ct
  obtain⟨x,hx⟩:=Ad AN
  obtain⟨bx,ox,fV,ax,NS,Q5,RN,RO,PB⟩:=hv.elem hx
  have FH:x.AT.length≤1000:=hs x (BV hx)
  refine zg ?_
  refine zc hl rfl (AOL ax NS x FH (PB.move (hl.since 0 rfl))) ?_;rintro v S1 AM rfl hl
  refine zg ?_
  constructor<;>intro FA
  ·
   refine zg ?_
   refine AR (Ai (Bg (AR ((z2 rfl rfl ⟨hl.AD,FK (by rw[Cz,←DI,C9 hx,AOp FA])⟩)))))
  refine Ar rfl ?_;refine xg AB ?_;refine rm rfl ?_;refine rr rfl (Ao rfl rfl rfl rfl) ?_;refine rm rfl ?_;refine Ak rfl ?_
  exact⟨L.length-(i+1),AA,i+1,AA,rfl,⟨congrArg some (congrArg (Value.int .i64) (IntWalk.i64_in _ AA)),rfl,trivial⟩,by rw[←AOo FA,←C9 hx];exact DI,hl⟩
 refine zg ?_
 refine y2 rfl rfl ⟨hl.AD,FK (by rw[Cz,←DI,List.drop_eq_nil_of_le (dF Ct)];rfl)⟩
end Go.Proofs.YtmfphenhpkgidaaGreatDoor
namespace Go.Proofs.YtmfphenhpkgidaaGreatDoor
open Go.Cm Go
set_option maxRecDepth 100000
variable{S:St}
def FQ:List AP→List Sg→Bool
 | [],[]=>true
 | [],_::_=>false
 |x::r,[]=>x.blank&&FQ r []
 |x::r,y::l=>(x.blank&&FQ r (y::l))||(FQ r l&&decide (y∈x.AT))
def Di:List AP→List Sg→List Int
 | [],_=>[]
 |x::r,[]=>(x.AT.length:Int)::Di r []
 |x::r,y::l=>bif FQ r l&&decide (y∈x.AT)then G4 x.AT y 0::Di r l else(x.AT.length:Int)::Di r (y::l)
def ES(L:List AP)(C:List Sg)(i k:Nat):Bool:=FQ (L.drop i) (C.drop k)
theorem AEc{L:List AP}{C:List Sg}{k:Nat}(hk:k≤C.length):ES L C L.length k=decide (k=C.length):=by
 unfold ES
 rw[List.drop_length]
 by_cases h:k=C.length
 ·subst h;rw[List.drop_length,decide_eq_true rfl];rfl
 rw[decide_eq_false h]
 obtain⟨y,hy⟩:=Ad (l:=C) (i:=k) AA
 rw[C9 hy];rfl
theorem AEd{L:List AP}{C:List Sg}{i k:Nat}{x:AP}{y:Sg}(hx:nth L i=some x)(hy:nth C k=some y):ES L C i k=((x.blank&&ES L C (i+1) k)||(ES L C (i+1) (k+1)&&decide (y∈x.AT))):=by
 unfold ES
 rw[C9 hx,C9 hy]
 rfl
theorem AEe{L:List AP}{C:List Sg}{i:Nat}{x:AP}(hx:nth L i=some x):ES L C i C.length=(x.blank&&ES L C (i+1) C.length):=by
 unfold ES
 rw[C9 hx,List.drop_length]
 rfl
def HQ:List Sg→Bool
 | []=>false
 |y::_=>y.kind==4
def Da:Bool→List Sg→Nat→Int×Int
 |_,[],_=>(0,0)
 |b,s::r,i=>bif one s !=0 then(one s,i)else bif s.kind !=4 then Da b r (i+1)else bif s.last&&!b then(3,i)else bif s.last then Da false r (i+1)else bif HQ r then Da true r (i+1)else(3,i)
def Df(nm:List UInt8)(C:List Sg):Int×Int:=bif !HP nm then(7,0)else bif decide ((C.length:Int)>400)then(11,0)else Da false C 0
def DJ(C:List Sg)(i:Nat):Bool:=match i with
 |0=>false
 |j+1=>match nth C j with
  |some s=>(s.kind==4)&&!s.last
  |none=>false
def findF(n1 n2:List UInt8)(L:List AP)(C:List Sg):List Int×Bool×Int :=
 bif (DF n1 L).1 !=0 then([],false,(DF n1 L).1)else bif (Df n2 C).1 !=0 then([],false,(Df n2 C).1)
 else bif !GQ n1 n2||!FQ L C then([],false,0)else(Di L C,true,0)
end Go.Proofs.YtmfphenhpkgidaaGreatDoor
namespace Go.Proofs.YtmfphenhpkgidaaGreatDoor
open Go.Cm Go
set_option maxRecDepth 100000
variable{S:St}
theorem zW{b:Bool}{s:Sg}{r:List Sg}{i:Nat}(h:(one s !=0)=true):Da b (s::r) i=(one s,(i:Int)):=by
 rw[Da,h];rfl
theorem nT{b:Bool}{s:Sg}{r:List Sg}{i:Nat}(h:(one s !=0)=false)(h2:(s.kind !=4)=true):Da b (s::r) i=Da b r (i+1):=by
 rw[Da,h,h2];rfl
theorem nU{b:Bool}{s:Sg}{r:List Sg}{i:Nat}(h:(one s !=0)=false)(h2:(s.kind !=4)=false)(h3:(s.last&&!b)=true):Da b (s::r) i=(3,(i:Int)):=by
 rw[Da,h,h2,h3];rfl
theorem nV{b:Bool}{s:Sg}{r:List Sg}{i:Nat}(h:(one s !=0)=false)(h2:(s.kind !=4)=false)(h3:(s.last&&!b)=false)(h4:s.last=true):Da b (s::r) i=Da false r (i+1):=by
 rw[Da,h,h2,h3,h4];rfl
theorem nW{b:Bool}{s:Sg}{r:List Sg}{i:Nat}(h:(one s !=0)=false)(h2:(s.kind !=4)=false)(h3:(s.last&&!b)=false)(h4:s.last=false)(h5:(!HQ r)=true):Da b (s::r) i=(3,(i:Int)):=by
 have gn:HQ r=false:=by simpa using h5
 rw[Da,h,h2,h3,h4,gn];rfl
theorem nX{b:Bool}{s:Sg}{r:List Sg}{i:Nat}(h:(one s !=0)=false)(h2:(s.kind !=4)=false)(h3:(s.last&&!b)=false)(h4:s.last=false)(h5:(!HQ r)=false):Da b (s::r) i=Da true r (i+1):=by
 have gn:HQ r=true:=by simpa using h5
 rw[Da,h,h2,h3,h4,gn];rfl
theorem xv{C:List Sg}{i:Nat}(h:C.length≤i):HQ (C.drop i)=false:=by rw[List.drop_eq_nil_of_le h];rfl
theorem xu{C:List Sg}{i:Nat}{s:Sg}(h:nth C i=some s):HQ (C.drop i)=(s.kind==4):=by rw[C9 h];rfl
noncomputable def c44:Code:=Tryz.f44.body.getD .skip
theorem AAe(nm:ByteArray)(a:Option Addr)(cap:Nat)(C:List Sg)(hn:C.length≤1000)(hG:Gl S)(hv:Ck S (.slice a C.length cap) C):CC Tryz.prog KK 44 [AX [.string nm,.slice a C.length cap]] S (fun v S'=>AL S S'∧v=Aw [.int .i64 (Df nm.data.toList C).1,.int .i64 (Df nm.data.toList C).2]):=by
 refine Ce (c:=c44) (n:=67) Tryz.func44 rfl rfl rfl AB rfl rfl ?_
 have hl:=BE.start S
 refine zg ?_;refine bL hl fun B1 S1 hl=>?_;refine zg ?_;refine ABS rfl ?_;refine zg ?_
 refine zc hl rfl (AAa nm) ?_;rintro v S1 AM rfl hl
 refine rr rfl (BY rfl rfl rfl) ?_;refine zg ?_
 constructor<;>intro Ba
 ·
  refine zg ?_
  refine Ai (Pk (y2 rfl rfl ⟨hl.AD,FK (by unfold Df;rw[Ba];rfl)⟩))
 refine zg ?_
 constructor<;>intro Bo
 ·
  refine zg ?_
  refine Ai (Pk (y2 rfl rfl ⟨hl.AD,FK (by unfold Df;rw[Ba,Bo];rfl)⟩))
 refine zg ?_;refine ABR rfl ?_;refine AG rfl ?_;refine zS ?_;refine Az rfl ?_
 -- LOOP
 have Cz:Df nm.data.toList C=Da false C 0:=by unfold Df;rw[Ba,Bo];rfl
 refine AK (L':=[(4,.bool false),(19,.int .i64 0),(18,.int .i64 C.length),(1,ptrTo B1 0)]) sE ?_
 refine A2 rfl (fun m Le S'=>∃(i:Nat) (b:Bool),i≤C.length∧m=C.length-i∧Af [(4,.bool b),(19,.int .i64 (i:Int)),(18,.int .i64 C.length),(1,ptrTo B1 0)] Le∧Da b (C.drop i) i=Da false C 0∧BE S [S] S' [(B1,.cells [.string nm,.slice a C.length cap] 44 false true [])]) ?_ (m:=C.length) ⟨0,false,AA,rfl,sE,rfl,hl⟩
 clear hl;rintro m Le S' ⟨i,b,hi,rfl,AH,BH,hl⟩;refine AK AH ?_
 refine zg ?_
 constructor<;>intro Cq
 ·
  have AN:i<C.length:=dT Cq
  obtain⟨s,hs⟩:=Ad AN
  obtain⟨b1,o1,BF,ha,_,AQ,Aa⟩:=hv.elem hs
  refine zg ?_;refine aL hl [.int .i64 0,.int .i64 0,.int .i64 0,.int .i64 0,.bool false,.int .i64 0,.bool false,.bool false,.int .i64 0,.int .i64 0,.int .i64 0,.int .i64 0,.bool false,.int .i64 0,.int .i64 0,.int .i64 0,.int .i64 0] fun B6 S6 hl=>?_;refine CN hl 0 rfl rfl rfl rfl rfl rfl rfl AB rfl ?_;intro S1 hl;refine zg ?_
  refine zc hl rfl (AAb s (hG.AD hl.AD)) ?_;rintro v S1 AM rfl hl
  refine zg ?_
  constructor<;>intro CJ
  ·
   refine zg ?_
   refine Ai (AR (Ai (Bg (AR (Ai (Pk (y2 rfl rfl ⟨hl.AD,FK (by rw[Cz,←BH,C9 hs,zW CJ])⟩)))))))
  refine zg ?_
  constructor<;>intro EU
  ·
   refine HB rfl ?_;refine xg AB ?_;refine rr rfl (Ao rfl rfl rfl rfl) ?_;refine rm rfl ?_;refine Ak rfl ?_
   exact⟨C.length-(i+1),AA,i+1,b,AA,rfl,⟨rfl,congrArg some (congrArg (Value.int .i64) (IntWalk.i64_in _ AA)),rfl,rfl,trivial⟩,by rw[←nT CJ EU,←C9 hs];exact BH,hl.tail⟩
  refine AG rfl (CR hl 37 (.bool (s.last&&!b)) ?_ rfl ?_)
  ·
   refine zg ?_;refine AZ (d:=40) rfl (fun DO=>?_) (fun DO=>?_)
   ·
    refine zg ?_;refine rr rfl (BY rfl rfl rfl) ?_;refine zg ?_
    exact⟨rfl,bl (by first|(simp[DO];done)|(simp only[DO,Ag])),by repeat (first|exact BN _|refine BO rfl ?_),hl⟩
   refine zg ?_
   exact⟨rfl,bl (by first|(simp[DO];done)|(simp only[DO,Ag])),by repeat (first|exact BN _|refine BO rfl ?_),hl⟩
  intro S1 hl
  refine zg ?_
  constructor<;>intro HG
  ·
   refine zg ?_
   refine AR (Ai (AR (Ai (Bg (AR (Ai (Pk (y2 rfl rfl ⟨hl.AD,FK (by rw[Cz,←BH,C9 hs,nU CJ EU HG])⟩))))))))
  refine zg ?_
  constructor<;>intro DB
  ·
   refine xs AB ?_;refine rm rfl ?_;refine Ak rfl ?_;refine HB rfl ?_;refine xg AB ?_;refine rr rfl (Ao rfl rfl rfl rfl) ?_;refine rm rfl ?_;refine Ak rfl ?_
   exact⟨C.length-(i+1),AA,i+1,false,AA,rfl,⟨rfl,congrArg some (congrArg (Value.int .i64) (IntWalk.i64_in _ AA)),rfl,rfl,trivial⟩,by rw[←nV CJ EU HG DB,←C9 hs];exact BH,hl.tail⟩
  refine AG rfl (CR hl 48 (.bool (!HQ (C.drop (i+1)))) ?_ rfl ?_)
  ·
   refine zg ?_;refine AZ (d:=55) rfl (fun E3=>?_) (fun E3=>?_)
   ·
    refine zg ?_
    exact⟨rfl,bl (by rw[xv (by have h:=(by simpa using E3:(i:Int)+1=C.length);omega)];rfl),by repeat (first|exact BN _|refine BO rfl ?_),hl⟩
   refine zg ?_
   have G3:i+1<C.length:=by have h:=(by simpa using E3:¬((i:Int)+1=C.length));omega
   obtain⟨s2,Iy⟩:=Ad G3
   obtain⟨b2,o2,EH,FD,_,GK,F0⟩:=hv.elem Iy
   refine zg ?_
   exact⟨rfl,bl (by rw[xu Iy];rfl),by repeat (first|exact BN _|refine BO rfl ?_),hl⟩
  intro S1 hl
  refine zg ?_
  constructor<;>intro EK
  ·
   refine zg ?_
   refine AR (Ai (AR (Ai (Bg (AR (Ai (Pk (y2 rfl rfl ⟨hl.AD,FK (by rw[Cz,←BH,C9 hs,nW CJ EU HG DB EK])⟩))))))))
  refine Ar rfl ?_;refine xg AB ?_;refine rm rfl ?_;refine Ak rfl ?_;refine xg AB ?_;refine rr rfl (Ao rfl rfl rfl rfl) ?_;refine rm rfl ?_;refine Ak rfl ?_
  exact⟨C.length-(i+1),AA,i+1,true,AA,rfl,⟨rfl,congrArg some (congrArg (Value.int .i64) (IntWalk.i64_in _ AA)),rfl,rfl,trivial⟩,by rw[←nX CJ EU HG DB EK,←C9 hs];exact BH,hl.tail⟩
 refine zg ?_
 refine Pk (y2 rfl rfl ⟨hl.AD,FK (by rw[Cz,←BH,List.drop_eq_nil_of_le (dF Cq)];rfl)⟩)
end Go.Proofs.YtmfphenhpkgidaaGreatDoor
namespace Go.Proofs.YtmfphenhpkgidaaGreatDoor
open Go.Cm Go
set_option maxRecDepth 100000
variable{S:St}
def D7(C:List Sg)(i:Int):Bool:=(decide (i≥0)&&decide (i<C.length))&&(match nth C i.toNat with
 |some s=>s.kind==4
 |none=>false)
theorem MQ{α:Type}:∀{l:List α} {i:Nat},l.length≤i→nth l i=none
 | [],i,_=>by cases i<;>rfl
 |_::l,0,h=>by simp at h
 |_::l,i+1,h=>MQ (l:=l) (i:=i) (by simpa using h)
theorem xw(C:List Sg)(i:Nat):HQ (C.drop i)=(match nth C i with
 |some s=>s.kind==4
 |none=>false):=by
 by_cases h:i<C.length
 ·obtain⟨s,hs⟩:=Ad h
  rw[xu hs,hs]
 rw[xv AA,MQ AA]
theorem Yf(C:List Sg)(i:Nat):D7 C ((i:Int)+1)=HQ (C.drop (i+1)):=by
 unfold D7
 rw[show((i:Int)+1).toNat=i+1 from rfl,xw]
 by_cases h:i+1<C.length
 ·have h2:decide ((i:Int)+1<C.length)=true:=by rw[decide_eq_true_iff];omega
  have h1:decide ((i:Int)+1≥0)=true:=by rw[decide_eq_true_iff];omega
  rw[h1,h2];rfl
 have h2:decide ((i:Int)+1<C.length)=false:=by rw[decide_eq_false_iff_not];omega
 rw[h2,MQ AA,Bool.and_false]
theorem dp{C:List Sg}{i:Nat}(h:(!D7 C ((i:Int)-1))=false):∃j,i=j+1∧∃s,nth C j=some s∧s.kind=4:=by
 unfold D7 at h
 simp only[Bool.not_eq_false',Bool.and_eq_true,decide_eq_true_iff]at h
 obtain⟨⟨h1,h2⟩,h3⟩:=h
 refine⟨i-1,AA,?_⟩
 rw[show((i:Int)-1).toNat=i-1 by omega]at h3
 split at h3
 ·rename_i s hs
  exact⟨s,hs,by simpa using h3⟩
 cases h3
theorem yK{C:List Sg}{i:Nat}(h:(!D7 C ((i:Int)-1))=true):DJ C i=false:=by
 cases i with
 |zero=>rfl
 |succ j =>
  unfold D7 at h
  rw[show(((j+1:Nat):Int)-1)=(j:Int) by omega,show((j:Int)).toNat=j from rfl]at h
  show(match nth C j with
   |some s=>(s.kind==4)&&!s.last
   |none=>false)=false
  cases hs:nth C j with
  |none=>rfl
  |some s =>
   rw[hs]at h
   have h2:decide ((j:Int)<C.length)=true:=by rw[decide_eq_true_iff];have:=I5 hs;omega
   have h1:decide ((j:Int)≥0)=true:=by rw[decide_eq_true_iff];omega
   rw[h1,h2]at h
   have h':(s.kind==4)=false:=by simpa using h
   simp only[h',Bool.false_and]
theorem Xj{C:List Sg}{j:Nat}{s:Sg}(h:nth C j=some s):DJ C (j+1)=((s.kind==4)&&!s.last):=by
 show(match nth C j with
  |some s=>(s.kind==4)&&!s.last
  |none=>false)=_
 rw[h]
theorem yJ{C:List Sg}{j:Nat}{s:Sg}(h:nth C j=some s)(hk:s.kind=4):s.last=!DJ C (j+1):=by
 rw[Xj h,hk];cases s.last<;>rfl
def Yz(C:List Sg)(i:Nat):Prop:=DJ C i=true→∃s,nth C i=some s∧s.kind=4
theorem zK{C:List Sg}{i:Nat}{s:Sg}{R:Int×Int}(hs:nth C i=some s)(h1:(one s !=0)=false)(h2:(s.kind !=4)=true)(ho:Yz C i)(BH:Da (DJ C i) (C.drop i) i=R):Da (DJ C (i+1)) (C.drop (i+1)) (i+1)=R∧Yz C (i+1):=by
 have h0:DJ C i=false:=by
  cases h:DJ C i with
  |false=>rfl
  |true =>
   obtain⟨s2,e1,e2⟩:=ho h
   rw[hs]at e1
   cases e1
   rw[e2]at h2
   cases h2
 have h3:DJ C (i+1)=false:=by
  rw[Xj hs]
  have:(s.kind==4)=false:=by simpa using h2
  rw[this];rfl
 rw[h0,C9 hs,nT h1 h2]at BH
 rw[h3]
 exact⟨BH,fun h=>by rw[h3]at h;cases h⟩
theorem AJ4{C:List Sg}{i:Nat}{s:Sg}(hs:nth C i=some s)(h1:(one s !=0)=false)(h2:(s.kind !=4)=false)(h3:((!DJ C i&&s.last)||(!s.last&&!HQ (C.drop (i+1))))=true):Da (DJ C i) (C.drop i) i=(3,(i:Int)):=by
 rw[C9 hs]
 cases hl:s.last with
 |true=>exact nU h1 h2 (by rw[hl]at h3 ⊢;simpa using h3)
 |false=>exact nW h1 h2 (by rw[hl];rfl) hl (by rw[hl]at h3;simpa using h3)
theorem zJ{C:List Sg}{i:Nat}{s:Sg}{R:Int×Int}(hs:nth C i=some s)(h1:(one s !=0)=false)(h2:(s.kind !=4)=false)(h3:((!DJ C i&&s.last)||(!s.last&&!HQ (C.drop (i+1))))=false)(BH:Da (DJ C i) (C.drop i) i=R):Da (DJ C (i+1)) (C.drop (i+1)) (i+1)=R∧Yz C (i+1):=by
 rw[C9 hs]at BH
 have hk:(s.kind==4)=true:=by simpa using h2
 cases hl:s.last with
 |true =>
  rw[nV h1 h2 (by rw[hl]at h3 ⊢;simpa using h3) hl]at BH
  have h4:DJ C (i+1)=false:=by rw[Xj hs,hl,Bool.not_true,Bool.and_false]
  rw[h4]
  exact⟨BH,fun h=>by rw[h4]at h;cases h⟩
 |false =>
  have h5:HQ (C.drop (i+1))=true:=by rw[hl]at h3;simpa using h3
  rw[nX h1 h2 (by rw[hl];rfl) hl (by rw[h5];rfl)]at BH
  have h4:DJ C (i+1)=true:=by rw[Xj hs,hl,hk];rfl
  rw[h4]
  refine⟨BH,fun _=>?_⟩
  rw[xw]at h5
  split at h5
  ·rename_i s2 Iy
   exact⟨s2,Iy,by simpa using h5⟩
  cases h5
noncomputable def c73:Code:=Tryz.f73.body.getD .skip
theorem YU(a:Option Addr)(cap:Nat)(C:List Sg)(i:Int)(hv:Ck S (.slice a C.length cap) C):CC Tryz.prog KK 73 [.slice a C.length cap,.int .i64 i] S (fun v S'=>AL S S'∧v= .bool (D7 C i)):=by
 refine Ce (c:=c73) (n:=21) Tryz.func73 rfl rfl rfl AB rfl rfl ?_
 have hl:=BE.start S
 refine zS ?_;refine AK (L':=[(1,.int .i64 i),(0,.slice a C.length cap)]) sE ?_;refine AG rfl (CR hl 4 (.bool (D7 C i)) ?_ rfl ?_)
 ·
  refine zg ?_;refine AZ (d:=7) rfl (fun h7=>?_) (fun h7=>?_)
  ·
   refine zg ?_;refine AZ (d:=13) rfl (fun EA=>?_) (fun EA=>?_)
   ·
    refine zg ?_
    have h0:0≤i:=I6 h7
    have AN:i.toNat<C.length:=dT EA
    obtain⟨s,hs⟩:=Ad AN
    obtain⟨b1,o1,BF,ha,_,AQ,Aa⟩:=hv.elem hs
    refine zg ?_
    exact⟨rfl,bl (by unfold D7;rw[h7,EA,hs];rfl),by repeat (first|exact BN _|refine BO rfl ?_),hl⟩
   refine zg ?_
   exact⟨rfl,bl (by unfold D7;rw[h7,EA];rfl),by repeat (first|exact BN _|refine BO rfl ?_),hl⟩
  refine zg ?_
  exact⟨rfl,bl (by unfold D7;rw[h7];rfl),by repeat (first|exact BN _|refine BO rfl ?_),hl⟩
 intro S1 hl
 refine zg ?_
 refine y1 rfl ⟨hl.AD,rfl⟩
noncomputable def c49:Code:=Tryz.f49.body.getD .skip
theorem oG(nm:ByteArray)(a:Option Addr)(cap:Nat)(C:List Sg)(Ch:nm.data.toList.length≤1000)(hn:C.length≤1000)(hv:Ck S (.slice a C.length cap) C):CC Tryz.prog KK 49 [AX [.string nm,.slice a C.length cap]] S (fun v S'=>AL S S'∧v=Aw [.int .i64 (Df nm.data.toList C).1,.int .i64 (Df nm.data.toList C).2]):=by
 refine Ce (c:=c49) (n:=71) Tryz.func49 rfl rfl rfl AB rfl rfl ?_
 have hl:=BE.start S
 refine zg ?_;refine bL hl fun B1 S1 hl=>?_;refine zg ?_
 refine zc hl rfl (AAd nm Ch) ?_;rintro v S1 AM rfl hl
 refine rr rfl (BY rfl rfl rfl) ?_;refine zg ?_
 constructor<;>intro Ba
 ·
  refine zg ?_
  exact(z2 rfl rfl ⟨hl.AD,FK (by unfold Df;rw[Ba];rfl)⟩)
 refine zg ?_
 constructor<;>intro Bo
 ·
  refine zg ?_
  exact(z2 rfl rfl ⟨hl.AD,FK (by unfold Df;rw[Ba,Bo];rfl)⟩)
 refine Ar rfl ?_;refine AG rfl ?_;refine zS ?_;refine Az rfl ?_
 -- LOOP
 have Cz:Df nm.data.toList C=Da false C 0:=by unfold Df;rw[Ba,Bo];rfl
 refine AK (L':=[(4,.int .i64 0),(1,ptrTo B1 0)]) sE ?_
 refine A2 rfl (fun m Le S'=>∃i:Nat,i≤C.length∧m=C.length-i∧Af [(4,.int .i64 (i:Int)),(1,ptrTo B1 0)] Le∧Da (DJ C i) (C.drop i) i=Da false C 0∧Yz C i∧BE S [S] S' [(B1,.cells [.string nm,.slice a C.length cap] 44 false true [])]) ?_ (m:=C.length) ⟨0,AA,rfl,sE,rfl,(fun h=>by cases h),hl⟩
 clear hl;rintro m Le S' ⟨i,hi,rfl,AH,BH,BI,hl⟩;refine AK AH ?_
 refine zg ?_
 constructor<;>intro Cq
 ·
  have AN:i<C.length:=dT Cq
  obtain⟨s,hs⟩:=Ad AN
  obtain⟨b1,o1,BF,ha,_,AQ,Aa⟩:=hv.elem hs
  refine zg ?_;refine aL hl [.int .i64 0,.int .i64 0,.int .i64 0,.int .i64 0,.bool false,.int .i64 0,.bool false,.bool false,.int .i64 0,.int .i64 0,.int .i64 0,.int .i64 0,.bool false,.int .i64 0,.int .i64 0,.int .i64 0,.int .i64 0] fun B5 S5 hl=>?_;refine CN hl 0 rfl rfl rfl rfl rfl rfl rfl AB rfl ?_;intro S1 hl;refine zg ?_
  refine zc hl rfl (AAj s) ?_;rintro v S1 AM rfl hl
  refine zg ?_
  constructor<;>intro Gy
  ·
   refine zg ?_
   refine Ai (AR (Ai (Bg (AR ((z2 rfl rfl ⟨hl.AD,FK (by rw[Cz,←BH,C9 hs,zW Gy])⟩))))))
  refine zg ?_
  constructor<;>intro Eg
  ·
   refine HB rfl ?_;refine xg AB ?_;refine rm rfl ?_;refine rr rfl (Ao rfl rfl rfl rfl) ?_;refine rm rfl ?_;refine Ak rfl ?_
   exact⟨C.length-(i+1),AA,i+1,AA,rfl,⟨congrArg some (congrArg (Value.int .i64) (IntWalk.i64_in _ AA)),rfl,trivial⟩,(zK hs Gy Eg BI BH).1,(zK hs Gy Eg BI BH).2,hl.tail⟩
  refine Ar rfl ?_;refine AG rfl (CR hl 7 (.bool (!DJ C i)) ?_ rfl ?_)
  ·
   refine zg ?_
   refine zc hl rfl (YU a cap C ((i:Int)-1) (hv.move (hl.since 0 rfl))) ?_;rintro v S1 AM rfl hl
   refine rr rfl (BY rfl rfl rfl) ?_;refine zg ?_;refine AZ (d:=43) rfl (fun FB=>?_) (fun FB=>?_)
   ·
    refine zg ?_
    exact⟨rfl,bl (by rw[yK FB];rfl),by repeat (first|exact BN _|refine BO rfl ?_),hl⟩
   obtain⟨j,rfl,s1,Cc,AM⟩:=dp FB
   obtain⟨b3,o3,H3,Is,_,Ix,IE⟩:=hv.elem Cc
   refine rr rfl (CM rfl rfl (fa Tryz.underlying44 J3 rfl)) ?_;refine rr rfl (rl hl 1 rfl rfl AB rfl rfl) ?_;refine rm rfl ?_;refine rr rfl (Ao rfl rfl rfl (congrArg some (congrArg (Value.int .i64) ((IntWalk.i64_in _ AA).trans (show(((j+1:Nat):Int)-1)=(j:Int) by omega))))) ?_;refine zA ?_
   exact⟨rfl,bl (yJ Cc AM),by repeat (first|exact BN _|refine BO rfl ?_),hl⟩
  intro S1 hl
  refine AG rfl (CR hl 69 (.bool ((!DJ C i&&s.last)||(!s.last&&!HQ (C.drop (i+1))))) ?_ rfl ?_)
  ·
   refine zg ?_;refine AZ (d:=53) rfl (fun FC=>?_) (fun FC=>?_)
   ·
    refine zg ?_;refine AZ (d:=57) rfl (fun Eh=>?_) (fun Eh=>?_)
    ·
     refine zg ?_
     exact⟨rfl,bl (by first|(simp[Eh,FC];done)|(rw[Yf];simp[Eh,FC];done)|(revert Eh FC;cases s.last<;>cases DJ C i<;>simp)),by repeat (first|exact BN _|refine BO rfl ?_),hl⟩
    refine zg ?_;refine rr rfl (BY rfl rfl rfl) ?_;refine zg ?_;refine AZ (d:=61) rfl (fun E4=>?_) (fun E4=>?_)
    ·
     refine zg ?_
     refine zc hl rfl (YU a cap C ((i:Int)+1) (hv.move (hl.since 0 rfl))) ?_;rintro v S1 AM rfl hl
     refine rr rfl (BY rfl rfl rfl) ?_;refine zg ?_
     exact⟨rfl,bl (by first|(simp[Eh,FC];done)|(rw[Yf];simp[Eh,FC];done)|(revert E4 Eh FC;cases s.last<;>cases DJ C i<;>simp)),by repeat (first|exact BN _|refine BO rfl ?_),hl⟩
    refine zg ?_
    exact⟨rfl,bl (by first|(simp[Eh,FC];done)|(rw[Yf];simp[E4,Eh,FC];done)|(revert E4 Eh FC;cases s.last<;>cases DJ C i<;>simp)),by repeat (first|exact BN _|refine BO rfl ?_),hl⟩
   refine zg ?_;refine rr rfl (BY rfl rfl rfl) ?_;refine zg ?_;refine AZ (d:=61) rfl (fun E4=>?_) (fun E4=>?_)
   ·
    refine zg ?_
    refine zc hl rfl (YU a cap C ((i:Int)+1) (hv.move (hl.since 0 rfl))) ?_;rintro v S1 AM rfl hl
    refine rr rfl (BY rfl rfl rfl) ?_;refine zg ?_
    exact⟨rfl,bl (by first|(simp[E4,FC];done)|(rw[Yf];simp[E4,FC];done)|(revert E4 FC;cases s.last<;>cases DJ C i<;>simp)),by repeat (first|exact BN _|refine BO rfl ?_),hl⟩
   refine zg ?_
   exact⟨rfl,bl (by first|(simp[E4,FC];done)|(rw[Yf];simp[E4,FC];done)|(revert E4 FC;cases s.last<;>cases DJ C i<;>simp)),by repeat (first|exact BN _|refine BO rfl ?_),hl⟩
  intro S1 hl
  refine zg ?_
  constructor<;>intro GH
  ·
   refine zg ?_
   refine AR (Ai (Bg (AR ((z2 rfl rfl ⟨hl.AD,FK (by rw[Cz,←BH,AJ4 hs Gy Eg GH])⟩)))))
  refine Ar rfl ?_;refine xg AB ?_;refine rm rfl ?_;refine rr rfl (Ao rfl rfl rfl rfl) ?_;refine rm rfl ?_;refine Ak rfl ?_
  exact⟨C.length-(i+1),AA,i+1,AA,rfl,⟨congrArg some (congrArg (Value.int .i64) (IntWalk.i64_in _ AA)),rfl,trivial⟩,(zJ hs Gy Eg GH BH).1,(zJ hs Gy Eg GH BH).2,hl.tail⟩
 refine zg ?_
 refine y2 rfl rfl ⟨hl.AD,FK (by rw[Cz,←BH,List.drop_eq_nil_of_le (dF Cq)];rfl)⟩
end Go.Proofs.YtmfphenhpkgidaaGreatDoor
namespace Go.Proofs.YtmfphenhpkgidaaGreatDoor
open Go.Cm Go
set_option maxRecDepth 100000
variable{S:St}
def NI(s:Sg):Sg:={kind:=s.kind,value:=0,place:=s.place,acc:=s.acc,color:=s.color,BJ:=s.BJ,Co:=s.Co,last:=s.last,mx:=0,md:=0,tm:=0,pr:=0,Fa:=false,n:=0,d:=0,step:=0,line:=0}
def tD(s:Sg)(last:Bool):Int :=
 bif s.kind !=4 then 8 else bif decide (s.place< -4)||decide (s.place>12)then 2 else bif decide (s.acc< -1)||decide (s.acc>2)then 2
 else bif decide (s.BJ<0)||decide (s.BJ>3)then 2 else bif (!(s.last==last))||!decide (NI s=s)then 3 else 0
def zSg:Sg:=⟨0,0,0,0,false,0,false,false,0,0,0,0,false,0,0,0,0⟩
def AU(C:List Sg)(k:Int):Sg:=match nth C k.toNat with
 |some s=>s
 |none=>zSg
theorem z6{C:List Sg}{k:Int}{s:Sg}(h:nth C k.toNat=some s):AU C k=s:=by unfold AU;rw[h]
theorem nw{C:List Sg}{i:Nat}{s:Sg}(h:nth C i=some s):AU C (i:Int)=s:=z6 (k:=(i:Int)) h
theorem Ck.row{S:St}{a:Option Addr}{len cap:Nat}{C:List Sg}(h:Ck S (.slice a len cap) C)(Ac:0<C.length) :
  ∃b o cs,a=some ⟨b,o,none⟩∧DW S b 55 cs∧∀k:Int,0≤k→k<C.length→takeN 17 (CH (o+k.toNat*17) cs)=some (AU C k).cells:=by
 obtain⟨x,hx⟩:=Ad Ac
 obtain⟨b,o,cs,h1,_,h3,_⟩:=h.elem hx
 refine⟨b,o,cs,h1,h3,fun k hk ED=>?_⟩
 obtain⟨y,hy⟩:=Ad (show k.toNat<C.length by omega)
 obtain⟨b',o',J5,Zz,_,Nb,h4'⟩:=h.elem hy
 cases h1.symm.trans Zz
 obtain⟨_,own,kin,g⟩:=h3
 obtain⟨_,ATS,ATQ,g'⟩:=Nb
 rw[g]at g'
 cases g'
 rw[z6 hy]
 exact h4'
def z7(C:List Sg)(k:Int):Bool :=
 bif decide (k>0)&&(((AU C k).BJ==1)||((AU C k).BJ==2))then false
 else bif (AU C k).Co&&((k+1==(C.length:Int))||decide ((AU C (k+1)).place≥(AU C k).place)||(AU C (k+1)).Co)then false
 else bif decide (k>0)&&((AU C (k-1)).place==(AU C k).place)then false
 else !(decide (k<2)&&((AU C k).BJ==3)&&((AU C 0).BJ==1))
def fy(C:List Sg)(k:Int):Int:=tD (AU C k) (k+1==(C.length:Int))
def PR(C:List Sg)(k:Int):Int:=bif fy C k !=0 then fy C k else bif !z7 C k then 3 else 0
def MN:Nat→List Sg→Nat→Int×Int
 |0,_,_=>(0,0)
 |n+1,C,i=>bif PR C i !=0 then(PR C i,(i:Int))else MN n C (i+1)
def Up(C:List Sg):Bool:=decide ((C.length:Int)<2)||decide ((C.length:Int)>12)
def HO(C:List Sg):Int×Int:=bif Up C then(11,0)else MN C.length C 0
theorem AIF{n i:Nat}{C:List Sg}(h:PR C i≠0):MN (n+1) C i=(PR C i,(i:Int)):=by
 rw[MN,show(PR C i !=0)=true by simpa using h];rfl
theorem AIE{n i:Nat}{C:List Sg}(h:PR C i=0):MN (n+1) C i=MN n C (i+1):=by
 rw[MN,h];rfl
def nO(C:List Sg)(k:Int):Int:=bif (AU C k).BJ==3 then 2 else 0
def nP(C:List Sg)(k:Int):Int:=bif decide (k<2)&&((AU C 0).BJ==1)then 4 else 0
def nQ(C:List Sg)(k:Int):Int:=bif decide (k>0)then 0 else bif decide ((AU C 1).place<(AU C 0).place)==((AU C 0).BJ==2)then 3 else 2
def nR(C:List Sg)(k:Int):Int:=bif (k+1==(C.length:Int))&&!(AU C (k-1)).Co&&decide ((AU C k).place<(AU C (k-1)).place)then 2 else 0
def MO(C:List Sg)(k:Int):Int :=
 bif nO C k !=0 then nO C k else bif nP C k !=0 then nP C k else bif nQ C k !=0 then nQ C k else bif nR C k !=0 then nR C k else 3
def KS(C:List Sg):List Int:=(List.range' 0 C.length).map fun i=>MO C (i:Nat)
def H2(k:Int):Int:=bif decide (k<1)||decide (k>12)then 0 else bif (k==1)||(k==2)||(k==4)then 1 else bif k==3 then 2 else bif (k==5)||(k==6)||(k==9)||(k==10)then 3 else 4
structure Bk where
 kind:Int
 gU:Int
 upto:Int
instance:DecidableEq Bk:=fun a b=>decidable_of_iff (a.kind=b.kind∧a.gU=b.gU∧a.upto=b.upto) ⟨fun h=>by cases a;cases b;rw[Bk.mk.injEq];exact h,fun h=>by subst h;simp⟩
def Bk.cells(b:Bk):List Value:=[.int .i64 b.kind,.int .i64 b.gU,.int .i64 b.upto]
def Bk.v(b:Bk):Value:=AX b.cells
end Go.Proofs.YtmfphenhpkgidaaGreatDoor
namespace Go.Proofs.YtmfphenhpkgidaaGreatDoor
open Go.Cm Go
set_option maxRecDepth 100000
variable{S:St}
def AEs:List Value:=[.int .i64 0,.int .i64 1,.int .i64 1,.int .i64 2,.int .i64 1,.int .i64 3,.int .i64 3,.int .i64 4,.int .i64 4,.int .i64 3,.int .i64 3,.int .i64 4,.int .i64 4]
def Gc(S:St):Prop:=1<S.size∧S.get 1=some (.cells AEs 0 false false [])
theorem Gc.AD{S T:St}(h:Gc S)(k:AL S T):Gc T:=⟨Nat.lt_of_lt_of_le h.1 k.1,(k.2 1 h.1).trans h.2⟩
end Go.Proofs.YtmfphenhpkgidaaGreatDoor
namespace Go.Proofs.YtmfphenhpkgidaaGreatDoor
open Go.Cm Go
set_option maxRecDepth 100000
variable{S:St}
end Go.Proofs.YtmfphenhpkgidaaGreatDoor
namespace Go.Proofs.YtmfphenhpkgidaaGreatDoor
open Go.Cm Go
set_option maxRecDepth 100000
variable{S:St}
def iv(x:Int):Value:= .int .i64 x
def Kh(S:St)(v:Value)(l:List Int):Prop:=DL S 3 1 v (l.map fun x=>[iv x])
theorem Kh.move{S S':St}(h:RK S S'){v:Value}{l:List Int}(hs:Kh S v l):Kh S' v l:=DL.move h hs
theorem Kh.is{S:St}{v:Value}{l:List Int}(h:Kh S v l):∃a cap,v= .slice a l.length cap:=by
 obtain⟨a,cap,e⟩:=DL.is h
 exact⟨a,cap,by simpa using e⟩
theorem Kh.elem{S:St}{a:Option Addr}{len cap:Nat}{l:List Int}(h:Kh S (.slice a len cap) l){k:Nat}{x:Int}(hk:nth l k=some x) :
  ∃b o cs,a=some ⟨b,o,none⟩∧len=l.length∧DW S b 3 cs∧takeN 1 (CH (o+k*1) cs)=some [iv x]:=by
 obtain⟨b,o,cs,h1,h2,h3,h4⟩:=DL.elem h (Rn (fun x=>[iv x]) hk)
 exact⟨b,o,cs,h1,by simpa using h2,h3,h4⟩
theorem vq(S:St):Kh S (.slice none 0 0) []:= .inl ⟨rfl,.inl rfl⟩
def Ln(S0 S:St)(v:Value)(l:List Int):Prop:=Am S0 S ⟨v,3,1,l.map iv,l.length⟩
end Go.Proofs.YtmfphenhpkgidaaGreatDoor
namespace Go.Proofs.YtmfphenhpkgidaaGreatDoor
open Go.Cm Go
set_option maxRecDepth 100000
variable{S:St}
end Go.Proofs.YtmfphenhpkgidaaGreatDoor
namespace Go.Proofs.YtmfphenhpkgidaaGreatDoor
open Go.Cm Go
set_option maxRecDepth 100000
variable{S:St}
end Go.Proofs.YtmfphenhpkgidaaGreatDoor
namespace Go.Proofs.YtmfphenhpkgidaaGreatDoor
open Go.Cm Go
set_option maxRecDepth 100000
variable{S:St}
theorem AIJ{C:List Sg}(h:(HO C).1=0):2≤C.length:=by
 cases hb:Up C with
 |true=>unfold HO at h;rw[hb]at h;cases h
 |false=>unfold Up at hb;simp at hb;omega
theorem lT(C:List Sg):(KS C).length=C.length:=by unfold KS;simp
end Go.Proofs.YtmfphenhpkgidaaGreatDoor
namespace Go.Proofs.YtmfphenhpkgidaaGreatDoor
open Go.Cm Go
set_option maxRecDepth 100000
variable{S:St}
theorem AEt{k:Int}(h5:((k==1)||((k==2)||(k==4)))=false)(h9:(k==3)=false)(Ba:((k==5)||((k==6)||((k==9)||(k==10))))=false)(Bt:((k==7)||((k==8)||((k==11)||(k==12))))=false) :
  Aw [.int .i64 0,.int .i64 8]=Aw [.int .i64 (H2 k),.int .i64 (bif decide (k<1)||decide (k>12)then 8 else 0)]:=by
 have e:(decide (k<1)||decide (k>12))=true:=by
  simp at h5 h9 Ba Bt
  by_cases h1:1≤k
  ·by_cases h2:k≤12
   ·rcases EX h1 h2 with rfl|rfl|rfl|rfl|rfl|rfl|rfl|rfl|rfl|rfl|rfl|rfl<;>simp at h5 h9 Ba Bt
   simp;omega
  simp;omega
 unfold H2
 rw[e]
 rfl
noncomputable def AEP:Code:=Tryz.f176.body.getD .skip
theorem ANs(k:Int):CC Tryz.prog KK 176 [.int .i64 k] S (fun v S'=>AL S S'∧v=Aw [.int .i64 (H2 k),.int .i64 (bif decide (k<1)||decide (k>12)then 8 else 0)]):=by
 refine Ce (c:=AEP) (n:=21) Tryz.func176 rfl rfl rfl AB rfl rfl ?_
 have hl:=BE.start S
 refine zS ?_;refine AG rfl ?_;refine zS ?_;refine Az rfl ?_;refine AG rfl (CR hl 5 (.bool ((k==1)||((k==2)||(k==4)))) ?_ rfl ?_)
 ·
  refine zg ?_
  constructor<;>intro h5
  ·
   refine zg ?_
   exact⟨rfl,bl (by first|(simp[h5];done)|(simp only[h5,Ag])),by repeat (first|exact BN _|refine BO rfl ?_),hl⟩
  refine zg ?_
  constructor<;>intro Z0
  ·
   refine zg ?_
   exact⟨rfl,bl (by first|(simp[Z0,h5];done)|(simp only[Z0,h5,Ag])),by repeat (first|exact BN _|refine BO rfl ?_),hl⟩
  refine zg ?_
  exact⟨rfl,bl (by first|(simp[Z0,h5];done)|(simp only[Z0,h5,Ag])),by repeat (first|exact BN _|refine BO rfl ?_),hl⟩
 intro S1 hl
 refine zg ?_
 constructor<;>intro h5
 ·
  refine zg ?_
  refine AR ((z2 rfl rfl ⟨hl.AD,by rcases(show k=1∨k=2∨k=4 by simpa using h5)with rfl|rfl|rfl<;>rfl⟩))
 refine zg ?_
 constructor<;>intro h9
 ·
  refine zg ?_
  refine AR ((z2 rfl rfl ⟨hl.AD,by obtain rfl:k=3:=(by simpa using h9);rfl⟩))
 refine AG rfl (CR hl 11 (.bool ((k==5)||((k==6)||((k==9)||(k==10))))) ?_ rfl ?_)
 ·
  refine zg ?_
  constructor<;>intro Ba
  ·
   refine zg ?_
   exact⟨rfl,bl (by first|(simp[Ba];done)|(simp only[Ba,Ag])),by repeat (first|exact BN _|refine BO rfl ?_),hl⟩
  refine zg ?_
  constructor<;>intro UB
  ·
   refine zg ?_
   exact⟨rfl,bl (by first|(simp[UB,Ba];done)|(simp only[UB,Ba,Ag])),by repeat (first|exact BN _|refine BO rfl ?_),hl⟩
  refine zg ?_
  constructor<;>intro Z1
  ·
   refine zg ?_
   exact⟨rfl,bl (by first|(simp[Z1,UB,Ba];done)|(simp only[Z1,UB,Ba,Ag])),by repeat (first|exact BN _|refine BO rfl ?_),hl⟩
  refine zg ?_
  exact⟨rfl,bl (by first|(simp[Z1,UB,Ba];done)|(simp only[Z1,UB,Ba,Ag])),by repeat (first|exact BN _|refine BO rfl ?_),hl⟩
 intro S1 hl
 refine zg ?_
 constructor<;>intro Ba
 ·
  refine zg ?_
  refine AR ((z2 rfl rfl ⟨hl.AD,by rcases(show k=5∨k=6∨k=9∨k=10 by simpa using Ba)with rfl|rfl|rfl|rfl<;>rfl⟩))
 refine AG rfl (CR hl 16 (.bool ((k==7)||((k==8)||((k==11)||(k==12))))) ?_ rfl ?_)
 ·
  refine zg ?_
  constructor<;>intro Bt
  ·
   refine zg ?_
   exact⟨rfl,bl (by first|(simp[Bt];done)|(simp only[Bt,Ag])),by repeat (first|exact BN _|refine BO rfl ?_),hl⟩
  refine zg ?_
  constructor<;>intro UC
  ·
   refine zg ?_
   exact⟨rfl,bl (by first|(simp[UC,Bt];done)|(simp only[UC,Bt,Ag])),by repeat (first|exact BN _|refine BO rfl ?_),hl⟩
  refine zg ?_
  constructor<;>intro Z2
  ·
   refine zg ?_
   exact⟨rfl,bl (by first|(simp[Z2,UC,Bt];done)|(simp only[Z2,UC,Bt,Ag])),by repeat (first|exact BN _|refine BO rfl ?_),hl⟩
  refine zg ?_
  exact⟨rfl,bl (by first|(simp[Z2,UC,Bt];done)|(simp only[Z2,UC,Bt,Ag])),by repeat (first|exact BN _|refine BO rfl ?_),hl⟩
 intro S1 hl
 refine zg ?_
 constructor<;>intro Bt
 ·
  refine zg ?_
  refine AR ((z2 rfl rfl ⟨hl.AD,by rcases(show k=7∨k=8∨k=11∨k=12 by simpa using Bt)with rfl|rfl|rfl|rfl<;>rfl⟩))
 refine zg ?_
 refine y2 rfl rfl ⟨hl.AD,AEt h5 h9 Ba Bt⟩
noncomputable def AEM:Code:=Tryz.f141.body.getD .skip
theorem n9(s:Sg):CC Tryz.prog KK 141 [s.v] S (fun v S'=>AL S S'∧v= .int .i64 (H2 s.kind)):=by
 refine Ce (c:=AEM) (n:=12) Tryz.func141 rfl rfl rfl AB rfl rfl ?_
 have hl:=BE.start S
 refine zg ?_;refine bL hl fun B1 S1 hl=>?_;refine zg ?_
 refine zc hl rfl (ANs _) ?_;rintro v S1 AM rfl hl
 refine zg ?_
 refine y1 rfl ⟨hl.AD,rfl⟩
noncomputable def AES:Code:=Tryz.f269.body.getD .skip
theorem AOA(s:Sg):CC Tryz.prog KK 269 [s.v] S (fun v S'=>AL S S'∧v=(NI s).v):=by
 refine Ce (c:=AES) (n:=18) Tryz.func269 rfl rfl rfl AB rfl rfl ?_
 have hl:=BE.start S
 refine zg ?_;refine bL hl fun B1 S1 hl=>?_;refine aL hl [.int .i64 0,.int .i64 0,.int .i64 0,.int .i64 0,.bool false,.int .i64 0,.bool false,.bool false,.int .i64 0,.int .i64 0,.int .i64 0,.int .i64 0,.bool false,.int .i64 0,.int .i64 0,.int .i64 0,.int .i64 0] fun B2 S2 hl=>?_;refine zg ?_;refine rr rfl (A9 rfl rfl (v:=(NI s).v) (by rfl)) ?_;refine CN hl 0 rfl rfl rfl rfl rfl rfl rfl AB rfl ?_;intro S1 hl;refine zg ?_
 refine BA (Bm rfl (CD (z:=17) AB AB (hl.get 0 rfl) rfl) rfl) ⟨hl.AD,rfl⟩
end Go.Proofs.YtmfphenhpkgidaaGreatDoor

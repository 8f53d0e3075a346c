/-
  Exactly the parts of a source made of numbers agree with it, and the choice of a part gives it, and no smaller one does: SourceExact returns true for all lists of numbers.
-/
import Derived.Test.YtmfphenhpkgidaaGreatDoorSmG
import Derived.Test.YtmfphenhpkgidaaGreatDoorSk4
import Derived.Test.YtmfphenhpkgidaaGreatDoorSmB
import Derived.Test.YtmfphenhpkgidaaGreatDoorSy2
import Derived.Test.YtmfphenhpkgidaaGreatDoorSk3
import Derived.Test.YtmfphenhpkgidaaGreatDoorCards
import Derived.Test.YtmfphenhpkgidaaGreatDoorTie
import Derived.WalkKit
import Derived.ProofKit
import Derived.OpenShut
import Derived.Deep.DeepHandedRow
namespace Go.Proofs.YtmfphenhpkgidaaGreatDoor
open Go.Cm Go
set_option maxRecDepth 100000
variable{S:St}
theorem AFb{E:List AP}{C:List Sg}(Cz:(DF BB.data.toList E).1=0)(BI:Jl BB.data.toList C=true)(iR:FQ E C=true):findF BB.data.toList BB.data.toList E C=(Di E C,true,0):=by
 have h1:(Df BB.data.toList C).1=0:=eq_of_beq BI
 unfold findF
 rw[show((DF BB.data.toList E).1 !=0)=false by rw[Cz];rfl,show((Df BB.data.toList C).1 !=0)=false by rw[h1];rfl,VI,iR]
 rfl
theorem AEn{E:List AP}{C:List Sg}(h:findF BB.data.toList BB.data.toList E C=(Di E C,true,0)):Qi BB.data.toList BB.data.toList E C=(Di E C,0):=by
 unfold Qi
 rw[h]
 rfl
theorem Yl:∀{L:List AP} {V:List Nat},Vd L V→V.length=L.length
 | [],[],_=>rfl
 | [],_::_,h=>h.elim
 |_::_,[],h=>h.elim
 |x::L,c::V,h=>by rw[List.length_cons,List.length_cons,Yl h.2]
theorem AAz:∀{L:List AP} {V:List Nat} {j:Nat} {x:AP} {c:Nat},Vd L V→nth L j=some x→nth V j=some c→c<A6 x
 | [],_,_,_,_,_,h,_=>by cases h
 |_::_,[],_,_,_,h,_,_=>h.elim
 |y::L,d::V,0,x,c,h,h1,h2=>by cases h1;cases h2;exact h.1
 |y::L,d::V,j+1,x,c,h,h1,h2=>AAz h.2 h1 h2
set_option maxHeartbeats 4000000 in
theorem AOK(a:Option Addr)(cap:Nat)(L:List Int)(hF:BW S)(hG:Gl S)(hv:CZ S (.slice a L.length cap) L):CC Tryz.prog KK 4 [.slice a L.length cap] S (fun v S'=>AL S S'∧(v= .bool true)):=by
 refine ce 148 Tryz.func4 fun hl=>?_;refine zg ?_
 refine zc hl rfl (AEh (v:= .bool true) rfl) ?_;rintro v S1 AM rfl hl
 refine zg ?_
 refine zc hl rfl (ANt a cap L (hl.AD.3 hF) (hv.move (hl.since 0 rfl))) ?_;rintro v S2 AM ⟨ae,E,rfl,hE,hM,hZ⟩ hl
 have hl:=hl.mark
 refine aL hl ([.string ⟨#[]⟩,.slice none 0 0]) fun B4 S4 hl=>?_;refine sL hl 0 [.string BB,.slice ae E.length E.length] fun S5 hl=>?_
 have Cc:∀x,x∈E→x.AT.length≤1000:=fun x hx=>Nat.le_trans (hM x hx).ok.2.2.2 (by decide)
 have jI:∀x,x∈E→0<A6 x:=fun x hx=>(hM x hx).ok.2.2.1
 refine zg ?_
 refine zc hl rfl (AOU BB ae E.length E (hl.AD.3 hF) (hE.move (hl.since 0 rfl))) ?_;rintro v S6 AM ⟨bb,rfl,hbb⟩ hl
 refine rr rfl (BY rfl rfl rfl) ?_;refine zg ?_
 constructor<;>intro Bf
 ·
  refine zg ?_
  exact(z1 rfl ⟨hl.AD,rfl⟩)
 have hbt:bb=true:=by simpa using Bf
 obtain⟨_,hch⟩:=hbb hbt
 have Cz:=AOm hM hZ
 have h0:=AOn Cz hch
 refine Ar rfl ?_;refine zg ?_
 refine zc hl rfl (ANe BB ae E.length E (by decide) AA (fun _=>by omega) Cc (hl.AD.3 hF) (hG.AD hl.AD) (hE.move (hl.since 0 rfl))) ?_;rintro v S7 AM hR hl
 obtain⟨ap,P,rfl,hP,DC,KG,UJ,H8⟩:∃ap P,v=Aw [.slice ap P.length P.length,.int .i64 0]∧eS BB S7 (.slice ap P.length P.length) P∧(∀x,x∈P→x.Ok S7)∧P.map Pr.C=Eo BB.data.toList E (BR E)∧P.length≤4096∧∀x,x∈P→x.C.length≤1000:=by
  rcases hR with ⟨h,_⟩|⟨_,h⟩
  ·exact absurd h0 h
  exact h
 have hl:=hl.mark
 refine zA ?_;refine AG rfl ?_;refine zg ?_
 have hE:=hE.move (hl.since 1 rfl)
 have hl:AE S [S7,S] S7 [(B4,.cells [.string BB,.slice ae E.length E.length] 24 false true [])] []:=hl.marks (fun T hT=>by rcases List.mem_cons.1 hT with rfl|hT;exact Al;exact BQ (BQ hT))
 refine AK (L':=[(8,.int .i64 0),(7,.slice none 0 0),(5,.slice ap P.length P.length),(4,ptrTo B4 0),(3,.bool true),(2,.bool false)]) sE ?_
 refine A2 rfl (fun m Le S'=>∃(i:Nat) (ab:Option Addr) (cb:Nat) (W:List Int),i≤P.length∧m=P.length-i∧CZ S' (.slice ab W.length cb) W∧(i=0→W= [])∧(0<i→∃y,nth P (i-1)=some y∧W=Di E y.C)∧Af [(8,.int .i64 (i:Int)),(7,.slice ab W.length cb),(5,.slice ap P.length P.length),(4,ptrTo B4 0),(3,.bool true),(2,.bool false)] Le∧AE S [S7,S] S' [(B4,.cells [.string BB,.slice ae E.length E.length] 24 false true [])] []) ?_ (m:=P.length) ⟨0,none,0,[],AA,AA,A0.nil,fun _=>rfl,fun h=>absurd h (Nat.lt_irrefl _),sE,hl⟩
 clear hl;rintro m Le S' ⟨i,ab,cb,W,hi,rfl,hW,Z9,uI,AH,hl⟩;refine AK AH ?_
 have hl:=hl.mark
 refine zg ?_
 constructor<;>intro EU
 ·
  have AN:i<P.length:=dT EU
  obtain⟨y,hy⟩:=Ad AN
  have vX:nth (Eo BB.data.toList E (BR E)) i=some y.C:=by rw[←KG,CE,List.getElem?_map,←CE,hy];rfl
  obtain⟨BI,k,RF,uk⟩:=VA vX
  obtain⟨iR,iT,Uc,vU,ux⟩:=fR jI RF uk
  obtain⟨V,hV⟩:∃V,V=(dg E k).1:=⟨_,rfl⟩
  rw[←hV]at iT Uc vU ux
  have uS:=AFb Cz BI iR
  have aG:=AEn uS
  have hVl:(toI V).length=E.length:=by rw[show(toI V).length=V.length from List.length_map ..,Yl Uc]
  have jg:=H8 y (BV hy)
  have XM:=DC y (BV hy)
  have AGb:0<i→lexB W (toI V)=true:=fun h=>by
   obtain⟨y0,q1,q2⟩:=uI h
   have q3:nth (Eo BB.data.toList E (BR E)) (i-1)=some y0.C:=by rw[←KG,CE,List.getElem?_map,←CE,q1];rfl
   obtain⟨_,k0,q4,q5⟩:=VA q3
   obtain⟨_,q6,q7,q8,_⟩:=fR jI q4 q5
   rw[q2,q6]
   exact xB q7 Uc (by rw[q8,vU];exact mY q3 vX AA q5 uk)
  have hWl:W.length≤14:=by
   rcases Nat.eq_zero_or_pos i with h|h
   ·exact Z9 h▸Nat.zero_le _
   obtain⟨y0,q1,q2⟩:=uI h
   have q3:nth (Eo BB.data.toList E (BR E)) (i-1)=some y0.C:=by rw[←KG,CE,List.getElem?_map,←CE,q1];rfl
   obtain⟨_,k0,q4,q5⟩:=VA q3
   obtain⟨_,q6,q7,_,_⟩:=fR jI q4 q5
   rw[q2,q6,show(toI (dg E k0).1).length=(dg E k0).1.length from List.length_map ..,Yl q7]
   exact hZ
  obtain⟨b1,o1,BF,ha,_,AQ,Aa⟩:=hP.elem hy
  refine Ar rfl ?_;refine zg ?_;refine BC (idx:=[0,1,2,3,4,5,6,7,8,9,10]) rfl AB AB ?_;refine zg ?_
  refine zp hl rfl (C8 (ANz BB BB ae y.a E.length y.c E y.C AA jg Cc (hE.move (hl.since 1 rfl)) (XM.move (hl.since 1 rfl)) (hG.AD hl.AD)) fun v S' h=>⟨h.1,(h.2.trans (by rw[uS]):v=Aw [.bool true,.int .i64 0])⟩) ?_;rintro v S8 AM rfl hl;refine⟨zt,?_⟩
  refine zg ?_;refine BC (idx:=[0,1,2,3,4,5,6,7,8,9,10]) rfl AB AB ?_;refine zg ?_
  refine zp hl rfl (C8 (AN0 BB BB ae y.a E.length y.c E y.C AA jg Cc (hE.move (hl.since 1 rfl)) (XM.move (hl.since 1 rfl)) (hG.AD hl.AD)) fun v S' h=>⟨h.1,(by
   obtain⟨_,w,h1,h2⟩:=h
   rw[aG,iT]at h1 h2
   obtain⟨aw,cw,rfl⟩:=A0.is (f:=ic) h2
   exact⟨aw,cw,h1,h2⟩:∃aw cw,v=Aw [.slice aw (toI V).length cw,.int .i64 0]∧CZ S' (.slice aw (toI V).length cw) (toI V))⟩) ?_;rintro v S9 AM ⟨aw,cw,rfl,hw⟩ hl;refine⟨zt,?_⟩
  clear ha AQ Aa
  have hl:=hl.mark
  refine zA ?_;refine AG rfl ?_;refine AG rfl (CR hl 81 (.bool false) ?_ rfl ?_)
  ·
   refine zg ?_;refine rr rfl (BY rfl rfl rfl) ?_;refine zg ?_;refine AZ (d:=72) rfl (fun Wk=>by simp[hVl]at Wk) (fun Wk=>?_);refine zg ?_;refine AZ (d:=75) rfl (fun Z4=>?_) (fun Z4=>?_)
   ·
    have Iv:0<i:=by simp at Z4;omega
    refine zg ?_
    refine zc hl rfl (AN1 ab aw cb cw W (toI V) AA (hW.move (hl.since 1 rfl)) (hw.move (hl.since 0 rfl))) ?_;rintro v GB AM rfl hl
    refine rr rfl (BY rfl rfl rfl) ?_;refine zg ?_
    exact⟨rfl,bl (by rw[AGb Iv];rfl),sB,hl⟩
   refine zg ?_
   exact⟨rfl,bl rfl,sB,hl⟩
  intro Km hl
  refine zg ?_
  have RV:(E.zip V).length=E.length:=by rw[List.length_zip,Yl Uc];omega
  have hl:AE S [S9,S7,S] Km [(B4,.cells [.string BB,.slice ae E.length E.length] 24 false true [])] []:=hl.marks (fun T hT=>by rcases List.mem_cons.1 hT with rfl|hT;exact Al;exact BQ (BQ hT))
  have hl:=hl.D2 (g:=gG none []) (.inl ⟨rfl,rfl,rfl⟩)
  refine AK (L':=[(14,.int .i64 0),(13,.slice none 0 0),(11,.slice aw (toI V).length cw),(8,.int .i64 (i:Int)),(5,.slice ap P.length P.length),(4,ptrTo B4 0),(3,.bool true),(2,.bool false)]) sE ?_
  refine A2 rfl (fun m Le Sx=>∃(j:Nat) (av:Option Addr) (D:List Sg),j≤E.length∧m=E.length-j∧D.length≤j∧D=IL ((E.zip V).take j)∧Af [(14,.int .i64 (j:Int)),(13,.slice av D.length D.length),(11,.slice aw (toI V).length cw),(8,.int .i64 (i:Int)),(5,.slice ap P.length P.length),(4,ptrTo B4 0),(3,.bool true),(2,.bool false)] Le∧AE S [S9,S7,S] Sx [(B4,.cells [.string BB,.slice ae E.length E.length] 24 false true [])] [gG av D]) ?_ (m:=E.length) ⟨0,none,[],AA,AA,by simp,rfl,sE,hl⟩
  clear hl;rintro m Le Sx ⟨j,av,D,hj,rfl,MC,hD,AH,hl⟩;refine AK AH ?_
  refine zg ?_
  constructor<;>intro UD
  ·
   have O7:j<E.length:=dT UD
   obtain⟨x,hx⟩:=Ad O7
   obtain⟨c,hc⟩:=Ad (show j<V.length by rw[Yl Uc];exact O7)
   have Wv:nth (toI V) j=some (c:Int):=by unfold toI;rw[CE,List.getElem?_map,←CE,hc];rfl
   have hz:=lf (p5 hx hc)
   have Ue:=Cc x (BV hx)
   obtain⟨b1,o1,BF,a1,c1,ha,AQ,Aa,Fm⟩:=hE.elem hx
   have Fm:CW S7 (.slice a1 x.AT.length c1) x.AT:=Fm
   obtain⟨b2,o2,EH,FD,_,GK,F0⟩:=hw.elem Wv
   refine Ar rfl ?_;refine AG rfl ?_;refine Az rfl ?_;refine zS ?_;refine Az rfl ?_;refine AG rfl (CR hl 94 (.bool (decide ((c:Int)<(x.AT.length:Int)))) ?_ rfl ?_)
   ·
    refine zg ?_
    exact⟨rfl,bl rfl,sB,hl⟩
   intro Ko hl
   refine zg ?_
   constructor<;>intro Qs
   ·
    have G1:c<x.AT.length:=by simp at Qs;omega
    obtain⟨s,hs⟩:=Ad G1
    have No:FJ x c= [s]:=cG hs
    obtain⟨b3,o3,H3,Is,_,Ix,IE⟩:=Fm.elem hs
    refine zg ?_;refine dL hl s.cells Tryz.underlying42 fun AS4 Y1 AGv hl=>?_;refine DZ hl 0 rfl rfl (by simp) rfl rfl rfl rfl rfl rfl rfl Tryz.underlying42 Tryz.underlying42 rfl rfl AB (Cj (n:=1) (cap:=1) (new:=s.cells) AGv rfl) rfl rfl AB (by show D.length+1≤Ae;unfold Ae;omega) ?_;intro ASU Vz hl
    obtain⟨As,rfl⟩:∃x,ASU= .slice x (D.length+1) (D.length+1):=Am.C5 (hl.gr _ Al)
    have hl:AE S [S9,S7,S] Vz _ [gG As (D++[s])]:=Zv hl
    refine zg ?_
    exact⟨E.length-(j+1),AA,j+1,As,D++[s],AA,rfl,by rw[A8];omega,by rw[hz,No,←hD],⟨rfl,by rw[A8];rfl,rfl,rfl,rfl,rfl,rfl,rfl,trivial⟩,hl⟩
   have iS:c=x.AT.length∧x.blank=true∧FJ x c= []:=by
    rcases digit (AAz Uc hx hc)with ⟨_,_,_,h⟩|h
    ·simp[h]at Qs
    exact h
   refine AG rfl (CR hl 119 (.bool false) ?_ rfl ?_)
   ·
    refine zg ?_;refine AZ (d:=127) rfl (fun tn=>by simp[iS.1]at tn) (fun tn=>?_);refine zg ?_;refine rr rfl (BY rfl rfl rfl) ?_;refine zg ?_
    exact⟨rfl,bl (by rw[iS.2.1];rfl),sB,hl⟩
   intro Y1 hl
   refine zg ?_
   exact⟨E.length-(j+1),AA,j+1,av,D,AA,rfl,AA,by rw[hz,iS.2.2,←hD,List.append_nil],sE,hl⟩
  have hje:j=E.length:=dF UD
  subst hje
  have hDC:D=y.C:=by rw[hD,←RV,List.take_length];exact ux
  clear hD
  subst hDC
  have MD:CW Sx (.slice av y.C.length y.C.length) y.C:=Am.ls (f:=Sg.cells) (fun _=>rfl) (hl.gr _ Al)
  have hl:=hl.mark
  obtain⟨b1,o1,BF,ha,_,AQ,Aa⟩:=hP.elem hy
  refine zg ?_;refine BC (idx:=[0,1,2,3,4,5,6,7,8,9]) rfl AB AB ?_;refine zg ?_;refine pr rfl (A9 rfl rfl (v:=AX [.string BB,.slice av y.C.length y.C.length]) (by rfl)) ?_
  refine zp hl rfl (C8 (AN4 BB y.a av y.c y.C.length y.C y.C jg (XM.move (hl.since 2 rfl)) (MD.move (hl.since 0 rfl))) fun v S' h=>⟨h.1,(h.2.trans (by rw[decide_eq_true rfl]):v= .bool true)⟩) ?_;rintro v Vz AM rfl hl;refine⟨zt,?_⟩
  refine pr rfl (BY rfl rfl rfl) ?_;refine zg ?_
  exact⟨P.length-(i+1),AA,i+1,aw,cw,toI V,AA,rfl,hw.move (hl.since 1 rfl),fun h=>by omega,fun _=>⟨y,hy,iT.symm⟩,sE,AE.shrink hl (List.Sublist.refl _) (gs':=[]) (Us:=[S7,S]) (fun g hg=>(List.not_mem_nil hg).elim) (fun T hT=>BQ (BQ hT))⟩
 refine zg ?_
 exact y1 rfl ⟨hl.AD,rfl⟩
end Go.Proofs.YtmfphenhpkgidaaGreatDoor
namespace Go.Proofs.YtmfphenhpkgidaaGreatDoor
open Go.Cm Go
set_option maxRecDepth 100000
variable{S:St}
theorem qS:∀{C:List (List Value)},(∀x,x∈C→∃m:Int,x= [.int .i64 m])→∃L:List Int,C=L.map fun i=>[Value.int .i64 i]
 | [],_=>⟨[],rfl⟩
 |x::C,h=>by
  obtain⟨s,e1⟩:=h x Al
  obtain⟨L,e2⟩:=qS (C:=C) fun y hy=>h y (BQ hy)
  exact⟨s::L,by rw[e1,e2];rfl⟩
theorem AJ9{c:List Value}{n:Nat}(h:DV Tryz.prog (n+2) 38 S c):∃(a:Option Addr) (cap:Nat) (L:List Int),c= [.slice a L.length cap]∧CZ S (.slice a L.length cap) L:=by
 obtain⟨v,C,e1,h1,hC⟩:=AJ' h Tryz.underlying38 (z:=1) AB
 obtain⟨L,rfl⟩:=qS fun x hx=>AJ8 (hC x hx) Tryz.underlying3
 have hs:CZ S v L:=h1
 obtain⟨a,cap,rfl⟩:=A0.is hs
 exact⟨a,cap,L,e1,hs⟩
theorem AHx{W:World}(h:J0 W):Jz Tryz.prog KK W:=by
 refine⟨Zo _,fun f args S v hv=>?_⟩
 simp only[KK,kk,rp]at hv
 split at hv
 ·cases hb:Nat.beq f 17 with
  |true =>
   rw[hb]at hv
   cases hv
   obtain rfl:=Bc hb
   exact⟨fun ρ=> .bool _,Tryz.f17,_,Tryz.func17,er,by kernel_rfl,ABT fun w hk=>ASF (Xa hk h)⟩
  |false =>
   rw[hb]at hv
   cases hv
 cases hv
theorem AF1:Tryz.prog.globals.size=3:=by kernel_rfl
theorem AOv:Gl (Kb listed Tryz.prog.globals.size) :=
 ⟨Nat.le_of_ble_eq_true (show Nat.ble (0+1) Tryz.prog.globals.size=true by kernel_rfl),by kernel_rfl⟩
theorem AOu:BW (Kb listed Tryz.prog.globals.size):=by
 intro b hb
 cases h:(Kb listed Tryz.prog.globals.size).get b with
 |none=>rfl
 |some B =>
  obtain⟨l,hl,_⟩:=dh Tryz.prog.globals.size listed b B h
  have Bj:3≤b:=AF1▸hb
  rcases xD b l hl with ⟨rfl,_⟩|⟨rfl,_⟩|⟨rfl,_⟩<;>omega
theorem AHo{W:World}(hm:J0 W){H:Type}{enc:TypeId×Value→H}{a1:Option Addr}{l1 k1:Nat}{d1:DataW H}{p1:List MemPlace}
  (h1:DataW.Trod enc Tryz.prog W 0 (fun _=>true) true 38 (.slice a1 l1 k1) d1 p1)
  {f:FuncId}{fn:Func}{c:Code}(hf:Tryz.prog.funcs[f]?=some fn)(hb:fn.body=some c)(Ch:(fn.name== "runtime.NumGoroutine")=false)
  (spec:∀(S:St) (ax:Option Addr) (cx:Nat) (X:List Int),BW S→Gl S→CZ S (.slice ax X.length cx) X →
   CC Tryz.prog KK f [.slice ax X.length cx] S fun v _=>v= .bool true) :
  Calls Tryz.prog f #[.slice a1 l1 k1] W fun e w=>e= .returned (.bool true)∧Kept W w:=by
 obtain⟨AFo,h1⟩:=h1
 have LF:=oK (P:=Tryz.prog) (size_le hm) hm bY
 obtain⟨ρ1,S1,c1,x1,s1,e1,r1,q1⟩:=lay (P:=Tryz.prog) (w0:=⟨W,fun _=>false⟩) 7 38 AFo _ _ _ AB (fun _=>rfl) h1 _ _ LF
 obtain⟨ax,cx,X,rfl,Cc⟩:=AJ9 (n:=5) q1
 refine(AEb follows (AHx hm) hf hb Ch s1 (args':= #[.slice a1 l1 k1]) (AS.cons (AS.head r1) AS.nil) (spec S1 ax cx X (e1.3 AOu) (AOv.AD e1) Cc)).mono ?_
 rintro e w ⟨v,ρ',v',hv,hr,he,hk⟩
 subst hv
 cases hr
 exact⟨he,hk⟩
end Go.Proofs.YtmfphenhpkgidaaGreatDoor
namespace Go.Proofs.YtmfphenhpkgidaaGreatDoor
open Go.Cm Go
set_option maxRecDepth 100000
variable{S:St}
open Go.ChangeShapes Go.WideShapes Go.ChangeAt Go.RowKit
theorem AJK:ownKnob Tryz.prog.godebug=none:=by kernel_rfl
theorem _root_.Go.Cm.Kept.but{W w:World}(h:Kept W w)(may:MemPlace→Prop):W.keptBut w may:=by
 refine⟨h.os,h.out,fun i hi=>?_⟩
 rw[h.old i hi]
 cases W.heap[i]? with
 |none=>rfl
 |some o=>cases o<;>first|exact⟨rfl,rfl,rfl,fun _ _=>rfl⟩|exact .inr ⟨rfl,rfl⟩|rfl
theorem AJW{H:Type}{enc:TypeId×Value→H}{P:Program}{f:Func}{s:ChangeSpec}{apart fresh handsOn:Bool}{W W':World}{args:Array Value}{ds gs:List (DataW H)}{before pa pv:List MemPlace}{t:TypeId}
  (hr:f.resultTypes= #[t])(ht:P.underlying t=some .bool)(hs:(s.fn H (ds++gs)).results= [.lit (.bool true)])
  (hW:DataW.Whole enc P f.params.toList s.vars apart W args.toList ds gs before)(hk:Kept W W')
  (O3:DataW.TrodAll enc P W' 0 (fun b=>decide (b<W.heap.size)) true f.params.toList args.toList (s.fn H (ds++gs)).args pa)
  (AHU:DataW.TrodVars enc P W' (fun b=>decide (b<W.heap.size)) s.vars (s.fn H (ds++gs)).vars pv):s.post enc P f apart fresh handsOn false W args (.bool true) W':=by
 refine⟨ds,gs,before,[],pa,pv,hW,?_,O3,AHU,hk.but _,fun h=>by cases h⟩
 rw[hr,hs]
 exact trodAll_mk1 (shut_bool ht _)
def holds(l:List Value):Obj→Obj
 | .cells _ t frozen=> .cells l.toArray t frozen
 |o=>o
noncomputable def AH1(h:Array Obj):Array Obj:=(((h).modify 0 (holds l4)).modify 1 (holds l5)).modify 2 (holds bq)
noncomputable def lQ(os:Os):World :=
 {World.holding Tryz.prog os ⟨#[], #[],[]⟩with heap:=AH1 (World.holding Tryz.prog os ⟨#[], #[],[]⟩).heap}
def za:Array Value:= #[.slice none 0 0]
def zd{H:Type}:List (DataW H):=[.nil]
theorem AH2(os:Os):laidMet Tryz.prog Rows.sourceExactRow.laid ((lQ os).forCall (fun _ _=>0) ⟨#[],za,[]⟩).memory :=
 laidMet_of_run' 8 AB AB
theorem reads(os:Os){H:Type}(enc:TypeId×Value→H):∃places,DataW.whole enc Tryz.prog ((lQ os).forCall (fun _ _=>0) ⟨#[],za,[]⟩).memory Tryz.f4.params.toList Rows.sourceExactSpec.vars false za.toList 8=some (zd,[],places) :=
 ⟨[],by kernel_rfl⟩
theorem AH3:qC Rows.sourceExactRow.laid:=by
 refine⟨?_,?_,?_⟩
 all_goals
  show _∈[_,_,_]
  simp only[List.mem_cons,true_or,or_true]
theorem mT:Tryz.f4.params= #[38]:=by kernel_rfl
theorem AEy(H:Type)(enc:TypeId×Value→H)(W:World)(base:Nat)(args:Array Value)(ds gs:List (DataW H))(before:List MemPlace)
  (Ub:∀(j:Nat) t v,Tryz.f4.params[j]?=some t→args[j]?=some v→Value.okWide Tryz.prog W .any base t v)
  (hW:DataW.Whole enc Tryz.prog Tryz.f4.params.toList Rows.sourceExactSpec.vars false W args.toList ds gs before)(hL:laidMetH Tryz.prog Rows.sourceExactRow.laid W) :
  Calls Tryz.prog 4 args W fun e W'=>∃v,e= .returned v∧Rows.sourceExactSpec.post enc Tryz.prog Tryz.f4 false true false false W args v W':=by
 have hW':=hW
 obtain⟨p,q,tr,hV,rfl,UP,Gf⟩:=hW
 have hA:DataW.TrodAll enc Tryz.prog W 0 (fun _=>true) true Tryz.f4.params.toList args.toList ds p:=tr
 rw[mT]at hA Ub
 obtain⟨v1,d1,rfl,rfl,h1⟩:=trodAll_one hA
 obtain⟨rfl,rfl⟩:=trodVars_none hV
 obtain⟨x1,y1,z1,rfl⟩:=okWide_slice Tryz.underlying38 (Ub 0 38 v1 rfl rfl)
 clear tr
 refine(AHo (AIK AH3 hL) h1 Tryz.func4 (c:=(cb Tryz.f4)) AB AB (fun S ax cx X hF hG hx=>C8 (AOK ax cx X hF hG hx) fun v S' h=>h.2)).mono fun e W' ⟨he,hk⟩=>?_
 subst he
 refine⟨_,rfl,AJW (pa:=p) (pv:=[]) (t:=4) AB AB rfl hW' hk ?_ ?_⟩
 ·rw[mT]
  exact zP hk 7 _ _ _ _ AB hA
 exact rfl
theorem lifted(os:Os)(started:os.Started)(H:Type)(enc:TypeId×Value→H)(F:Stop.Interp) :
  ReturnsInHanded {} Tryz.checked os 4 .any ((OpenSpec.ofChange Rows.sourceExactSpec).preRow enc Tryz.prog Tryz.f4 Rows.sourceExactRow.domain false Rows.sourceExactRow.laid) (((OpenSpec.ofChange Rows.sourceExactSpec).at F).post enc Tryz.prog Tryz.f4 false true false false):=by
 obtain⟨places,hx⟩:=reads os enc
 refine returnsInHanded_of_row (C:=Tryz.checked) (s:=OpenSpec.ofChange Rows.sourceExactSpec) AJK started AB Tryz.func4
  (witness_row_at (enc:=enc) (C:=Tryz.checked) false (lQ os) za rfl AB AB AB
   (OpenSpec.preRow_of_cond 8 hx AB (fun k hk=>by cases hk) AB (AH2 os))) ?_
 intro W base args ds gs before Ub hW _ _ _ hL _ _
 exact AEy H enc W base args ds gs before Ub hW hL
theorem said:Rows.SourceExactSaid :=
 OpenClaim.holds_of_cond 4 Tryz.f4 rfl rfl rfl rfl rfl rfl rfl ⟨rfl,rfl,rfl,rfl,rfl⟩ rfl rfl rfl rfl rfl AB Tryz.func4 AHq
  (I6 AB) (by unfold Func.isWrapper;first|(rw[if_pos (by decide+kernel)];kernel_rfl)|(rw[if_neg (by decide+kernel)];exact⟨rfl,rfl⟩))
  (fun os started H enc _ F=>by rw[OpenClaim.pre_eq_preRow];exact lifted os started H enc F)
theorem plain(f:FuncId)(fn:Func)(hf:Tryz.pinned.checked.prog.funcNamed "tactus/tactuslaw36.SourceExact" =some f)(Q8:Tryz.pinned.checked.prog.funcs[f]?=some fn) :
  true=Tryz.pinned.checked.prog.looks []∧∀(j:Nat) t,fn.params[j]?=some t→Tryz.pinned.checked.prog.wantsStandIn t=false:=by
 obtain rfl:f=4:=Option.some.inj ((show Tryz.prog.funcNamed "tactus/tactuslaw36.SourceExact" =some 4 by kernel_rfl).symm.trans hf) |>.symm
 obtain rfl:fn=Tryz.f4:=(Option.some.inj (Tryz.func4.symm.trans Q8)).symm
 refine⟨by kernel_rfl,fun j t ht=>?_⟩
 rw[mT]at ht
 have KL:=Array.mem_of_getElem? ht
 obtain rfl:t=38:=by simpa using KL
 exact(show Tryz.prog.wantsStandIn 38=false by kernel_rfl)
theorem card:Rows.SourceExactCardSaid :=
 Claim7.holds_tied_plain_at .later [] _ _ _ _ said (fun _ h=>by cases h) AB (fun _ h=>by cases h) sourceExact_row_tie rfl ⟨rfl,rfl⟩ AB rfl plain AB
end Go.Proofs.YtmfphenhpkgidaaGreatDoor

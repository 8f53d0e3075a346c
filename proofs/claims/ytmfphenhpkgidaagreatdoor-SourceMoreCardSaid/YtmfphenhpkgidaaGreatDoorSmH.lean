/-
  Every part of two sources agrees with both together, and without one alternative a source has no other parts: SourceMore returns true for all lists of numbers and all numbers.
-/
import Derived.Test.YtmfphenhpkgidaaGreatDoorSmG
import Derived.Test.YtmfphenhpkgidaaGreatDoorSmF
import Derived.Test.YtmfphenhpkgidaaGreatDoorSk4
import Derived.Test.YtmfphenhpkgidaaGreatDoorSmB
import Derived.Test.YtmfphenhpkgidaaGreatDoorSy2
import Derived.Test.YtmfphenhpkgidaaGreatDoorSk3
import Derived.Test.YtmfphenhpkgidaaGreatDoorCards
import Derived.Test.YtmfphenhpkgidaaGreatDoorTie
import Derived.WalkKit
import Derived.ProofKit
import Derived.OpenShut
import Derived.Deep.DeepHandedRow
namespace Go.Proofs.YtmfphenhpkgidaaGreatDoor
open Go.Cm Go
set_option maxRecDepth 100000
variable{S:St}
theorem ATv{α:Type}{e e2:TypeId}{z:Nat}{f:α→List Value}{S S':St}{v:Value}{C:List α}(h:RKx e S S')(Ac:e2≠e)(hv:A0 e2 z f S v C):A0 e2 z f S' v C:=by
 rcases hv with h1|⟨b2,o,cap,cs,h1,h2,h3,h5⟩
 ·exact .inl h1
 exact .inr ⟨b2,o,cap,cs,h1,h2,h _ _ _ Ac h3,h5⟩
abbrev ATb(v:Value)(D:List Sp)(fr:List (Nat×AF)):Prop:=OW v 49 2 ((D.map Sp.cells).flatten) D.length fr
theorem AUY{a:Option Addr}{C:List Sp}{x:Sp}{fr:List (Nat×AF)}(h:OW (.slice a (C.length+1) (C.length+1)) 49 2 ((C.map Sp.cells).flatten++x.cells) (C.length+1) fr):ATb (.slice a (C++[x]).length (C++[x]).length) (C++[x]) fr:=OW.push h
def SpO(S:St)(D:List Sp):Prop:= ∀y,y∈D→CW S (.slice y.a y.x.AT.length y.c) y.x.AT
theorem SpO.move{S S':St}{D:List Sp}(hk:RK S S')(h:SpO S D):SpO S' D:=fun y hy=>(h y hy).move hk
set_option maxHeartbeats 4000000 in
theorem AUe(nm:ByteArray)(a:Option Addr)(cap:Nat)(L:List AP)(hn:L.length≤1000)(hs:∀x,x∈L→x.AT.length≤1000)(hF:BW S)(hv:EG S (.slice a L.length cap) L):CC Tryz.prog KK 8 [AX [.string nm,.slice a L.length cap]] S (fun v S'=>AL S S'∧(∃a2 D fr,v=AX [.string nm,.slice a2 D.length D.length]∧D.map Sp.x=L∧SpO S' D∧ATb (.slice a2 D.length D.length) D fr∧AE S [S] S' fr [])):=by
 refine ce 35 Tryz.func8 fun hl=>?_;refine zg ?_;refine bL hl fun B1 S1 hl=>?_;refine aL hl ([.string ⟨#[]⟩,.slice none 0 0]) fun B2 S2 hl=>?_;refine zg ?_;refine rr rfl (A9 rfl rfl (v:=AX [.string nm,.slice none 0 0]) (by rfl)) ?_;refine aL hl ([.string ⟨#[]⟩,.slice none 0 0]) fun B3 S3 hl=>?_;refine sL hl 0 [.string nm,.slice none 0 0] fun S4 hl=>?_;refine zA ?_;refine AG rfl ?_;refine zS ?_;refine Az rfl ?_
 have hl:AE S [S] S4 ([(B3,.cells [.string nm,.slice none ([]:List Sp).length ([]:List Sp).length] 24 false true []),(B2,.cells [.string ⟨#[]⟩,.slice none 0 0] 24 false true []),(B1,.cells [.string nm,.slice a L.length cap] 24 false true [])]++([]++[])) []:=hl
 refine AK (L':=[(4,.int .i64 0),(3,ptrTo B3 0),(2,ptrTo B2 0),(1,ptrTo B1 0)]) sE ?_
 refine A2 rfl (fun m Le S'=>∃(i:Nat) (av:Option Addr) (D:List Sp) (fr:List (Nat×AF)),i≤L.length∧m=L.length-i∧D.length=i∧D.map Sp.x=L.take i∧SpO S' D∧ATb (.slice av D.length D.length) D fr∧Af [(4,.int .i64 (i:Int)),(3,ptrTo B3 0),(2,ptrTo B2 0),(1,ptrTo B1 0)] Le∧AE S [S] S' ([(B3,.cells [.string nm,.slice av D.length D.length] 24 false true []),(B2,.cells [.string ⟨#[]⟩,.slice none 0 0] 24 false true []),(B1,.cells [.string nm,.slice a L.length cap] 24 false true [])]++(fr++[])) []) ?_ (m:=L.length) ⟨0,none,[],[],AA,AA,rfl,rfl,fun x hx=>(List.not_mem_nil hx).elim,.inl ⟨rfl,rfl,rfl,rfl⟩,sE,hl⟩
 clear hl;rintro m Le S' ⟨i,av,D,fr,hi,rfl,hDi,hDx,hDo,hO,AH,hl⟩;refine AK AH ?_
 refine zg ?_
 constructor<;>intro Cf
 ·
  have AN:i<L.length:=dT Cf
  obtain⟨x,hx⟩:=Ad AN
  have FH:=hs x (BV hx)
  have hl:=hl.mark
  obtain⟨b1,o1,BF,a1,c1,ha,AQ,Aa,Fm⟩:=hv.elem hx
  refine zg ?_;refine BC (idx:=[0,1,2,3,4,5,6,7,9,10,11,12,13,14,8,15,16,17,18,19]) rfl AB AB ?_;refine zg ?_
  refine zp hl rfl (AUZ a1 c1 x.AT FH (Fm.move (hl.since 1 rfl))) ?_;rintro v S5 AM hg hl;refine⟨zt,?_⟩
  have hz:=eM.AT hg
  obtain⟨AUp,rfl⟩:∃AUp,v= .slice AUp x.AT.length x.AT.length:=Am.C5 hg
  have hl:=hl.mark
  obtain⟨y,hy⟩:∃y:Sp,y=⟨AUp,x.AT.length,x⟩:=⟨_,rfl⟩
  have FI:[Value.slice AUp x.AT.length x.AT.length,.bool x.blank]=y.cells:=by rw[hy];rfl
  refine pr rfl (A9 rfl rfl (v:=AX y.cells) (by rw[←FI];rfl)) ?_;refine MX hF hl rfl rfl rfl rfl rfl Tryz.underlying22 rfl (c:=y.cells) (by rw[←FI];kernel_rfl) ?_;intro Yt S6 AUk AUP hl
  have hl:AE S [S5,S',S] S6 ([(B3,.cells [.string nm,.slice av D.length D.length] 24 false true []),(B2,.cells [.string ⟨#[]⟩,.slice none 0 0] 24 false true []),(B1,.cells [.string nm,.slice a L.length cap] 24 false true [])]++(fr++[])) []:=hl
  refine nL hl hO rfl rfl rfl rfl rfl rfl rfl Tryz.underlying22 Tryz.underlying22 rfl rfl (by decide) AB (Cj (n:=1) (cap:=1) (new:=y.cells) AUP rfl) rfl rfl AB (by show D.length+1≤Ae;unfold Ae;omega) ?_;intro v32 f2 S7 Ei hl;refine⟨zt,?_⟩
  obtain⟨As,rfl⟩:=Ei.is
  have Ei:=AUY Ei
  refine zg ?_
  refine pL hl 0 [.string nm,.slice As (D.length+1) (D.length+1)] (h:=fun S8 hl=>⟨zt,?_⟩)
  refine zg ?_
  refine⟨L.length-(i+1),AA,i+1,As,D++[y],f2,AA,rfl,by rw[A8];omega,by rw[QO hx,Hm,hDx,hy];rfl,fun z hz2=>?_,Ei,sE,by rw[A8];exact hl.marks (Us:=[S]) (fun T hT=>BQ (BQ hT))⟩
  rcases List.mem_append.1 hz2 with h|h
  ·exact(hDo z h).move (hl.since 1 rfl)
  rw[List.mem_singleton.1 h,hy]
  exact hz.move (hl.since 0 rfl)
 have DH:i=L.length:=dF Cf
 subst DH
 rw[List.take_length]at hDx
 have hl:=hl.mark
 refine zg ?_;refine sL hl 1 [.string nm,.slice av D.length D.length] fun S9 hl=>?_
 have hDo:=hDo.move (hl.since 0 rfl)
 refine zg ?_
 exact BA (Bm rfl (lN (z:=2) (hl.get 1 rfl) rfl) rfl) ⟨hl.AD,av,D,fr,rfl,hDx,hDo,hO,AE.shrink hl ((List.sublist_append_left fr []).trans (List.sublist_append_right [_,_,_] _)) (gs':=[]) (Us:=[S]) (fun g hg=>(List.not_mem_nil hg).elim) (fun T hT=>BQ hT)⟩
end Go.Proofs.YtmfphenhpkgidaaGreatDoor
namespace Go.Proofs.YtmfphenhpkgidaaGreatDoor
open Go.Cm Go
set_option maxRecDepth 100000
variable{S:St}
section
variable{n:Nat}{ro:Option Nat}{L:Env}{S S0:St}{Q:CV}{ops:List Oper}{i d:Nat}{o:Oper}{P:Program}{K:BX}{a:Option Addr}
theorem AUT{q l:List (Nat×AF)}{Ts:List St}{v:Value}{e:TypeId}{z len:Nat}{c:List Value}{fr:List (Nat×AF)}(hl:AE S0 Ts S (q++(fr++l)) [])(hg:OW v e z c len fr){ar:Array Operand}{ts:Array TypeId}{sT xT:TypeId}{xd:TypeDesc}{x:Value}{m:Nat}{new:List Value}
  (ho:nth ops i=some o)(AV:o.op= .call ⟨.builtin .append,ar,ts⟩)(hw:Be ops L o=some true)(Hg:o.dst=some d)(AN:Nat.blt d n=true)(hx:Cm.D3 L ar.toList=some [v,x])(CT:ts.toList= [sT,xT])
  (hu:P.underlying sT=some (.slice e))(Dd:P.underlying xT=some xd)(hi:FV xd=false)(hlen:F6 x=some m)(hz:A5 P e=some z)(hs:EN S z m x=some new)
  (Cb:new.length=m*z)(hc:new.all D9=true)(FF:Io P e z=true)(FU:len+m≤Ae)
  (h:∀v' Cs S',OW v' e z (c++new) (len+m) Cs→AE S0 Ts S' (q++(Cs++l)) []→RE P K n ops (i+1) ((d,v')::L) S' Q):RE P K n ops i L S Q:=by
 rcases Nat.eq_zero_or_pos m with hm|hm
 ·subst hm
  have Cg:new= []:=List.length_eq_zero_iff.1 (by rw[Cb,Nat.zero_mul])
  subst Cg
  obtain⟨⟨a,rfl,ha⟩,_⟩:=hg.sh
  exact mo ho AV hw Hg AN rfl hx (AB2 ha CT hu Dd hi hlen hz hs) (h _ fr S (by rw[List.append_nil];exact hg) hl)
 exact VC hl hg ho AV hw Hg AN hx CT hu Dd hi hlen hm hz hs Cb hc FF FU h
end
theorem _root_.Go.Cm.AE.AUS{S0 S1 S2:St}{Ts:List St}{l r:List (Nat×AF)}(h0:AE S0 Ts S1 l [])(h1:AE S1 [S1] S2 r []):AE S0 Ts S2 (l++r) []:=by
 refine⟨h0.AD.trans h1.AD,?_,fun b x hx=>?_,fun T ht=>(h0.rk T ht).trans h1.AD.rk,fun g hg=>(List.not_mem_nil hg).elim⟩
 ·rw[Hm]
  refine List.nodup_append.2 ⟨h0.nd,h1.nd,fun a ha c hc=>?_⟩
  obtain⟨⟨a,x⟩,Fi,rfl⟩:=List.mem_map.1 ha
  obtain⟨⟨c,y⟩,Q6,rfl⟩:=List.mem_map.1 hc
  have e1:=(h0.at_ a x Fi).2.2
  have e2:=(h1.at_ c y Q6).2.1
  show a≠c
  omega
 rcases List.mem_append.1 hx with hx|hx
 ·obtain⟨e1,e2,e3⟩:=h0.at_ b x hx
  exact⟨(h1.AD.2 b e3).trans e1,e2,Nat.lt_of_lt_of_le e3 h1.AD.1⟩
 obtain⟨e1,e2,e3⟩:=h1.at_ b x hx
 exact⟨e1,Nat.le_trans h0.AD.1 e2,e3⟩
theorem AUJ{x:AP}{k:Nat}(hx:Tq x)(h:1<x.AT.length)(hk:k<x.AT.length):SbS ⟨x.AT.take k++x.AT.drop (k+1),x.blank⟩ x:=by
 have IG:=hx
 obtain⟨s,_,h1|⟨val,_,_,_,h1⟩⟩:=hx
 ·rw[h1]at h
  simp at h
 rw[h1]at hk ⊢
 have hk:k<2:=hk
 rcases Nat.lt_or_ge k 1 with h2|h2
 ·obtain rfl:k=0:=by omega
  exact SbS.one IG (by rw[h1];exact BQ Al) fun h=>h
 obtain rfl:k=1:=by omega
 exact SbS.one IG (by rw[h1];exact Al) fun h=>h
theorem AUI{x:AP}(hx:Tq x)(_:¬1<x.AT.length):SbS ⟨x.AT,false⟩ x:=⟨fun _ h=>h,fun h=>(by cases h),hx.ok.2.1,hx.pos,Nat.le_refl _⟩
theorem AT9{α β:Type}(f:α→β):∀(D:List α) (i:Nat) (y:α),(D.set i y).map f=(D.map f).set i (f y)
 | [],_,_=>rfl
 |_::_,0,_=>rfl
 |x::D,i+1,y=>congrArg (f x:: ·) (AT9 f D i y)
theorem SpO.set{S:St}{D:List Sp}{i:Nat}{y:Sp}(h:SpO S D)(hy:CW S (.slice y.a y.x.AT.length y.c) y.x.AT):SpO S (D.set i y):=fun z hz=>by
 rcases List.mem_or_eq_of_mem_set hz with h1|rfl
 ·exact h z h1
 exact hy
theorem SpO.rkx{S S':St}{D:List Sp}(hk:RKx 49 S S')(h:SpO S D):SpO S' D:=fun y hy=>ATv hk (by decide) (h y hy)
def MoS(S0 Sx:St)(B8 B9:Nat)(ae ay:Option Addr)(E M:List AP):Prop:=SbL M E∧EG Sx (.slice ay M.length M.length) M∧EG Sx (.slice ae E.length E.length) E∧AE S0 [S0] Sx [(B8,.cells [.string BB,.slice ae E.length E.length] 24 false true []),(B9,.cells [.string BB,.slice ay M.length M.length] 24 false true [])] []
theorem AT'{S0 S6 Sx:St}{Ts:List St}{B8 B9:Nat}{ae ay:Option Addr}{E:List AP}{D:List Sp}{i:Nat}{x:AP}{z:Sp}{fr l:List (Nat×AF)}
  (h0:AE S0 Ts S6 [(B8,.cells [.string BB,.slice ae E.length E.length] 24 false true [])] [])(hT:S0∈Ts)
  (hl:AE S6 [S6] Sx ([(B9,.cells [.string BB,.slice ay D.length D.length] 24 false true [])]++(fr++l)) [])
  (hE:EG S6 (.slice ae E.length E.length) E)(hM:∀x,x∈E→Tq x)(hDx:D.map Sp.x=E)(hx:nth E i=some x)(hz:SbS z.x x)
  (hO:ATb (.slice ay D.length D.length) (D.set i z) fr)(hs:SpO Sx (D.set i z)):∃M,MoS S0 Sx B8 B9 ae ay E M:=by
 have MC:D.length=E.length:=by rw[←hDx,D1]
 have e1:(D.set i z).map Sp.x=E.set i z.x:=by rw[AT9,hDx]
 have LG:=AOq (OW.at_ (f:=Sp.cells) (fun _=>rfl) hO hl Jg) hs
 rw[e1]at LG
 refine⟨E.set i z.x,(SbL.refl hM).set hx hz,by rw[List.length_set,←MC];exact LG,hE.move (hl.since 0 rfl),?_⟩
 have h1:=(AE.join (h0.marks (Us:=[S0]) fun T h=>by rw[List.mem_singleton.1 h];exact hT) hl)
 rw[List.length_set,←MC]
 rw[←MC]at h1
 exact AE.shrink h1 (.cons_cons _ (.cons_cons _ (List.nil_sublist _))) (gs':=[]) (Us:=[S0]) (fun g hg=>(List.not_mem_nil hg).elim) (fun T hT=>hT)
set_option maxHeartbeats 4000000 in
theorem AUa(a:Option Addr)(cap:Nat)(C:List Sg)(hn:C.length≤1000)(hv:CW S (.slice a C.length cap) C):CC Tryz.prog KK 24 [.slice a C.length cap] S (fun v S'=>AL S S'∧(∃a2 fr,v= .slice a2 C.length C.length∧OV a2 C fr∧AE S [S] S' fr [])):=by
 refine ce 6 Tryz.func24 fun hl=>?_;refine zg ?_;refine AUU hl rfl rfl rfl rfl rfl Tryz.underlying42 rfl (c:=[]) AB ?_;intro B2 S2 hl
 have hl:AE S [S] S2 ([]++([(B2,.cells [] 55 true true [])]++[])) []:=hl
 refine zg ?_
 have hO:OW (.slice (some ⟨B2,0,none⟩) 0 0) 55 17 [] 0 [(B2,.cells [] 55 true true [])]:= .inr ⟨B2,[],rfl,rfl,rfl,fun _ h=>(List.not_mem_nil h).elim⟩
 have IF:=hv.move (hl.since 0 rfl)
 refine AUT hl hO rfl rfl rfl rfl rfl rfl rfl Tryz.underlying42 Tryz.underlying42 rfl rfl AB (A0.cells IF) (HF (f:=Sg.cells) (z:=17) (fun _=>rfl) C) (Zt (fun _=>rfl) C) AB (by show 0+C.length≤Ae;unfold Ae;omega) ?_;intro AUu f2 S3 Ei hl
 rw[List.nil_append,Nat.zero_add]at Ei
 obtain⟨a2,rfl⟩:=Ei.is
 refine zg ?_
 exact(y1 rfl ⟨hl.AD,a2,f2,rfl,Ei,AE.shrink hl (List.sublist_append_left f2 []) (gs':=[]) (Us:=[S]) (fun g hg=>(List.not_mem_nil hg).elim) (fun T hT=>hT)⟩)
theorem AUX{α:Type}{e t:TypeId}{z:Nat}{f:α→List Value}{S S1 S2:St}{a:Option Addr}{n cap:Nat}{C:List α}{lo hi:Option Value}(h:A0 e z f S (.slice a n cap) C)(h1:RK S S1)(h2:RK S S2)(hu:Tryz.prog.underlying t=some (.slice e))(hz:A5 Tryz.prog e=some z):Fq Tryz.prog t (.slice a n cap) lo hi none S1=Fq Tryz.prog t (.slice a n cap) lo hi none S2:=by
 have hrs:∀{T:St} {b:Nat} {cs:List Value},DW T b e cs→I8 Tryz.prog T b z=true:=fun {T b cs} ⟨_,own,kin,hg⟩=>by
  unfold I8
  rw[hg]
  simp only[hz]
  exact IN _
 unfold Fq
 simp only[hu,hz]
 rcases h with ⟨_,h3|⟨b,o,k,h3⟩⟩|⟨b,o,WG,cs,e1,_,hr,_⟩
 ·cases h3;rfl
 ·cases h3;rfl
 cases e1
 cases H0 (C.map f).length cap lo hi none with
 |none=>rfl
 |some p =>
  obtain⟨p1,p2,p3⟩:=p
  simp only[hrs (h1.2 _ _ _ hr),hrs (h2.2 _ _ _ hr)]
theorem sly{P:Program}{n:Nat}{e:DE}{S':St}{t:TypeId}{x lo:Operand}{u w:Value}(AV:e.op= .slice t x (some lo) none none)(hx:Go.Cm.A7 e.L x=some u)(HI:Go.Cm.A7 e.L lo=some w)(hv:Fq P t u (some w) none none S'=some e.v)(hs:CP 100000 e.v e.v=true)(hf:e.fr=none){X:Prop}:X→HY P n S' e:=fun _=>by
 unfold HY
 rw[hf]
 exact⟨fun a ha=>by rw[AV];show Fq P t (a.ev x) (some (a.ev lo)) none none S'=_;rw[ha.ev hx,ha.ev HI,hv],hs⟩
theorem AUh{L1 L2:List AP}{i:Nat}{x y:AP}(h1:nth L1 i=some x)(h2:nth L2 i=some y):nth (List.zipWith AM5 L1 L2) i=some (AM5 x y):=by
 rw[CE]at h1 h2 ⊢
 rw[List.getElem?_zipWith,h1,h2]
set_option maxHeartbeats 4000000 in
theorem AUb(nm:ByteArray)(a1 a2:Option Addr)(c1 c2:Nat)(L1 L2:List AP)(h1:(DF nm.data.toList L1).1=0)(h2:(DF nm.data.toList L2).1=0)(hlen:L1.length=L2.length)(A4:∀p,p∈L1.zip L2→EM (AM5 p.1 p.2)≤4)(hn:L1.length≤1000)(Cc:∀x,x∈L1→x.AT.length≤400)(Iy:∀x,x∈L2→x.AT.length≤400)(hF:BW S)(hG:Gl S)(D4:EG S (.slice a1 L1.length c1) L1)(IF:EG S (.slice a2 L2.length c2) L2):CC Tryz.prog KK 25 [AX [.string nm,.slice a1 L1.length c1],AX [.string nm,.slice a2 L2.length c2]] S (fun v S'=>AL S S'∧(∃AUp,v=Aw [AX [.string nm,.slice AUp (List.zipWith AM5 L1 L2).length (List.zipWith AM5 L1 L2).length],.int .i64 0]∧EG S' (.slice AUp (List.zipWith AM5 L1 L2).length (List.zipWith AM5 L1 L2).length) (List.zipWith AM5 L1 L2))):=by
 refine ce 107 Tryz.func25 fun hl=>?_;refine zg ?_;refine bL hl fun B2 S2 hl=>?_;refine bL hl fun B3 S3 hl=>?_;refine aL hl ([.string ⟨#[]⟩,.slice none 0 0]) fun B4 S4 hl=>?_;refine zg ?_
 refine zc hl rfl (C8 (AAl nm a1 c1 L1 hn (fun x hx=>Nat.le_trans (Cc x hx) AA) (hG.AD hl.AD) (D4.move (hl.since 0 rfl))) fun v S' h=>⟨h.1,(h.2.trans (by rw[h1]):v=Aw [.int .i64 0,.int .i64 (DF nm.data.toList L1).2])⟩) ?_;rintro v S5 AM rfl hl
 refine zg ?_
 refine zc hl rfl (C8 (AAl nm a2 c2 L2 AA (fun x hx=>Nat.le_trans (Iy x hx) AA) (hG.AD hl.AD) (IF.move (hl.since 0 rfl))) fun v S' h=>⟨h.1,(h.2.trans (by rw[h2]):v=Aw [.int .i64 0,.int .i64 (DF nm.data.toList L2).2])⟩) ?_;rintro v S6 AM rfl hl
 refine zg ?_;refine AZ (d:=40) rfl (fun DO=>by rw[VI]at DO;cases DO) (fun DO=>?_);refine zg ?_
 constructor<;>intro EK
 ·
  simp[hlen]at EK
 refine zg ?_;refine rr rfl (A9 rfl rfl (v:=AX [.string nm,.slice none 0 0]) (by rfl)) ?_;refine aL hl ([.string ⟨#[]⟩,.slice none 0 0]) fun Hv S7 hl=>?_;refine sL hl 0 [.string nm,.slice none 0 0] fun S8 hl=>?_;refine zA ?_;refine AG rfl ?_;refine zS ?_;refine Az rfl ?_
 have hl:=hl.D2 (g:=L9 none []) (.inl ⟨rfl,rfl,rfl⟩)
 refine AK (L':=[(56,.int .i64 0),(55,.int .i64 L1.length),(54,.slice a1 L1.length c1),(10,ptrTo Hv 0),(5,.int .i64 0),(4,ptrTo B4 0),(3,ptrTo B3 0)]) sE ?_
 refine A2 rfl (fun m Le S'=>∃(i:Nat) (av:Option Addr) (D:List Sp),i≤L1.length∧m=L1.length-i∧D.length=i∧D.map Sp.x=(List.zipWith AM5 L1 L2).take i∧SpO S' D∧Af [(56,.int .i64 (i:Int)),(55,.int .i64 L1.length),(54,.slice a1 L1.length c1),(10,ptrTo Hv 0),(5,.int .i64 0),(4,ptrTo B4 0),(3,ptrTo B3 0)] Le∧AE S [S] S' [(Hv,.cells [.string nm,.slice av D.length D.length] 24 false true []),(B4,.cells [.string ⟨#[]⟩,.slice none 0 0] 24 false true []),(B3,.cells [.string nm,.slice a2 L2.length c2] 24 false true []),(B2,.cells [.string nm,.slice a1 L1.length c1] 24 false true [])] [L9 av D]) ?_ (m:=L1.length) ⟨0,none,[],AA,AA,rfl,rfl,fun x hx=>(List.not_mem_nil hx).elim,sE,hl⟩
 clear hl;rintro m Le S' ⟨i,av,D,hi,rfl,hDi,hDx,hDo,AH,hl⟩;refine AK AH ?_
 refine zg ?_
 constructor<;>intro Eh
 ·
  have AN:i<L1.length:=dT Eh
  obtain⟨x,hx⟩:=Ad AN
  obtain⟨y,hy⟩:=Ad (show i<L2.length by omega)
  have FH:=Cc x (BV hx)
  have Nr:=Iy y (BV hy)
  have hl:=hl.mark
  obtain⟨b1,o1,BF,ax,cx,ha,AQ,Aa,PB⟩:=D4.elem hx
  refine zg ?_;refine aL hl [.slice none 0 0,.bool false] fun eG Ko hl=>?_;refine zg ?_;refine sL hl 0 [.slice ax x.AT.length cx,.bool x.blank] fun Y1 hl=>?_
  clear ha AQ Aa
  obtain⟨b2,o2,EH,ay,AUr,ha,AQ,Aa,ATu⟩:=IF.elem hy
  have ATu:CW S (.slice ay y.AT.length AUr) y.AT:=ATu
  refine zg ?_;refine aL hl [.slice none 0 0,.bool false] fun JH Vz hl=>?_;refine sL hl 0 [.slice ay y.AT.length AUr,.bool y.blank] fun qI hl=>?_
  clear ha AQ Aa
  refine zA ?_
  refine AG rfl (Ex (fun Le Sx=>∃(Hw:Nat) (AUp:Option Addr),Af [(14,ptrTo Hw 0),(13,ptrTo JH 0),(56,.int .i64 (i:Int)),(55,.int .i64 L1.length),(54,.slice a1 L1.length c1),(10,ptrTo Hv 0),(5,.int .i64 0),(4,ptrTo B4 0),(3,ptrTo B3 0)] Le∧AE S [S',S] Sx [(Hw,.cells [.slice AUp x.AT.length x.AT.length,.bool (x.blank||y.blank)] 49 false true []),(JH,.cells [.slice ay y.AT.length AUr,.bool y.blank] 49 false true []),(eG,.cells [.slice ax x.AT.length cx,.bool x.blank] 49 false true []),(Hv,.cells [.string nm,.slice av D.length D.length] 24 false true []),(B4,.cells [.string ⟨#[]⟩,.slice none 0 0] 24 false true []),(B3,.cells [.string nm,.slice a2 L2.length c2] 24 false true []),(B2,.cells [.string nm,.slice a1 L1.length c1] 24 false true [])] [gG AUp x.AT,L9 av D]) ?_ ?_)
  ·
   refine BC (idx:=[0,1,3,4,10,2,5,6,7,8,9,11]) rfl AB AB ?_;refine zg ?_;refine KZ hF hl rfl rfl rfl rfl rfl (z:=[.slice none 0 0,.bool false]) AB ?_;intro Hw S16 hl
   have hle:=hl.AD.1
   refine zp hl rfl (AUd ax cx x.AT AA (PB.move (hl.since 1 rfl))) ?_;rintro v eU AM hgz hl;refine⟨zt,?_⟩
   obtain⟨AUp,rfl⟩:∃AUp,v= .slice AUp x.AT.length x.AT.length:=Am.C5 hgz
   have hl:=hl.D2 (Am.base hgz hle)
   refine zg ?_;refine Ep (d:=71) rfl (fun tp=>?_) (fun tp=>?_)
   ·
    refine zg ?_;refine pr rfl (A9 rfl rfl (v:=AX [.slice AUp x.AT.length x.AT.length,.bool true]) (by rfl)) ?_
    refine pL hl 0 [.slice AUp x.AT.length x.AT.length,.bool true] (h:=fun NC hl=>⟨zt,?_⟩)
    refine zg ?_
    refine⟨rfl,Hw,AUp,sE,?_⟩
    rw[show(x.blank||y.blank)=true by rw[tp];rfl]
    exact hl
   refine zg ?_;refine pr rfl (A9 rfl rfl (v:=AX [.slice AUp x.AT.length x.AT.length,.bool y.blank]) (by rfl)) ?_
   refine pL hl 0 [.slice AUp x.AT.length x.AT.length,.bool y.blank] (h:=fun NC hl=>⟨zt,?_⟩)
   refine zg ?_
   refine⟨rfl,Hw,AUp,sE,?_⟩
   rw[show(x.blank||y.blank)=y.blank by rw[tp];rfl]
   exact hl
  clear hl;rintro Le NC ⟨Hw,AUp,AH,hl⟩;refine AK AH ?_
  refine zA ?_;refine AG rfl ?_;refine zS ?_;refine Az rfl ?_;refine AK (L':=[(79,.int .i64 0),(78,.int .i64 y.AT.length),(77,.slice ay y.AT.length AUr),(14,ptrTo Hw 0),(56,.int .i64 (i:Int)),(55,.int .i64 L1.length),(54,.slice a1 L1.length c1),(10,ptrTo Hv 0),(5,.int .i64 0),(4,ptrTo B4 0),(3,ptrTo B3 0)]) sE ?_
  refine A2 rfl (fun m Le Sx=>∃(k:Nat) (AUp:Option Addr) (C:List Sg),k≤y.AT.length∧m=y.AT.length-k∧AEg C (y.AT.drop k)=AEg x.AT y.AT∧C.length≤x.AT.length+k∧Af [(79,.int .i64 (k:Int)),(78,.int .i64 y.AT.length),(77,.slice ay y.AT.length AUr),(14,ptrTo Hw 0),(56,.int .i64 (i:Int)),(55,.int .i64 L1.length),(54,.slice a1 L1.length c1),(10,ptrTo Hv 0),(5,.int .i64 0),(4,ptrTo B4 0),(3,ptrTo B3 0)] Le∧AE S [S',S] Sx [(Hw,.cells [.slice AUp C.length C.length,.bool (x.blank||y.blank)] 49 false true []),(JH,.cells [.slice ay y.AT.length AUr,.bool y.blank] 49 false true []),(eG,.cells [.slice ax x.AT.length cx,.bool x.blank] 49 false true []),(Hv,.cells [.string nm,.slice av D.length D.length] 24 false true []),(B4,.cells [.string ⟨#[]⟩,.slice none 0 0] 24 false true []),(B3,.cells [.string nm,.slice a2 L2.length c2] 24 false true []),(B2,.cells [.string nm,.slice a1 L1.length c1] 24 false true [])] [gG AUp C,L9 av D]) ?_ (m:=y.AT.length) ⟨0,AUp,x.AT,AA,AA,rfl,AA,sE,hl⟩
  clear hl;rintro m Le Sx ⟨k,AUp,C,hk,rfl,BH,hCl,AH,hl⟩;refine AK AH ?_
  refine zg ?_
  constructor<;>intro h80
  ·
   have G3:k<y.AT.length:=dT h80
   obtain⟨s,hs⟩:=Ad G3
   obtain⟨b3,o3,H3,ha,_,AQ,Aa⟩:=ATu.elem hs
   refine zg ?_;refine aL hl [.int .i64 0,.int .i64 0,.int .i64 0,.int .i64 0,.bool false,.int .i64 0,.bool false,.bool false,.int .i64 0,.int .i64 0,.int .i64 0,.int .i64 0,.bool false,.int .i64 0,.int .i64 0,.int .i64 0,.int .i64 0] fun B16 Y2 hl=>?_;refine sL hl 0 s.cells fun Y3 hl=>?_
   clear ha AQ Aa
   refine zg ?_
   refine zc hl rfl (AAc AUp C.length C s AA (eM.AT (hl.gr _ Al))) ?_;rintro v V0 AM rfl hl
   refine rr rfl (BY rfl rfl rfl) ?_;refine zg ?_
   constructor<;>intro KF
   ·
    refine zg ?_;refine dL hl s.cells Tryz.underlying42 fun B91 qK AUQ hl=>?_;refine DZ hl 0 rfl rfl (by simp;exact(show ¬(55:Nat)=49 by decide)) rfl rfl rfl rfl rfl rfl rfl Tryz.underlying42 Tryz.underlying42 rfl rfl AB (Cj (n:=1) (cap:=1) (new:=s.cells) AUQ rfl) rfl rfl AB (by show C.length+1≤Ae;unfold Ae;omega) ?_;intro v92 S24 hl
    obtain⟨az2,rfl⟩:∃x,v92= .slice x (C.length+1) (C.length+1):=Am.C5 (hl.gr _ Al)
    have hl:AE S [S',S] S24 _ [gG az2 (C++[s]),L9 av D]:=Zv hl
    refine zg ?_;refine sL hl 1 [.slice az2 (C.length+1) (C.length+1),.bool (x.blank||y.blank)] fun S25 hl=>?_;refine zg ?_
    exact⟨y.AT.length-(k+1),AA,k+1,az2,C++[s],AA,rfl,by rw[←AUF (by simpa using KF),←C9 hs];exact BH,by rw[A8];omega,sE,by rw[A8];exact hl.tail⟩
   refine zg ?_
   exact⟨y.AT.length-(k+1),AA,k+1,AUp,C,AA,rfl,by rw[←AUG (by simpa using KF),←C9 hs];exact BH,AA,sE,hl.tail⟩
  have hC:C=AEg x.AT y.AT:=by
   rw[←BH,List.drop_eq_nil_of_le (dF h80)]
   rfl
  have KN:L1[i]?=some x:=by rw[←CE];exact hx
  have hy2:L2[i]?=some y:=by rw[←CE];exact hy
  have hz4:=A4 (x,y) (BV (k:=i) (by rw[CE];exact List.getElem?_zip_eq_some.2 ⟨KN,hy2⟩))
  refine zg ?_
  refine zc hl rfl (c6 AUp C.length C.length (x.blank||y.blank) AA) ?_;rintro v qJ AM D4 hl
  have D4:v= .int .i64 (EM (AM5 x y)):=by
   rw[D4]
   unfold EM AM5
   rw[←hC]
  subst D4
  refine zg ?_
  constructor<;>intro h97
  ·
   exact absurd (I6 h97) (by show ¬EM (AM5 (x,y).1 (x,y).2)>4;omega)
  refine zg ?_
  have MD:CW qJ (.slice AUp C.length C.length) C:=Am.ls (f:=Sg.cells) (fun _=>rfl) (hl.gr _ Al)
  have hl:=hl.mark
  have hl:AE S [qJ,S',S] qJ [(Hv,.cells [.string nm,.slice av D.length D.length] 24 false true []),(B4,.cells [.string ⟨#[]⟩,.slice none 0 0] 24 false true []),(B3,.cells [.string nm,.slice a2 L2.length c2] 24 false true []),(B2,.cells [.string nm,.slice a1 L1.length c1] 24 false true [])] [L9 av D]:=AE.shrink hl (.cons _ (.cons _ (.cons _ (List.Sublist.refl _)))) (fun g hg=>BQ hg) (fun T hT=>hT)
  obtain⟨z,hz⟩:∃z:Sp,z=⟨AUp,C.length,AM5 x y⟩:=⟨_,rfl⟩
  have hzC:z.x.AT=C:=by rw[hz,hC];rfl
  have jj:[Value.slice AUp C.length C.length,.bool (x.blank||y.blank)]=z.cells:=by
   unfold Sp.cells
   rw[hzC,hz]
   rfl
  rw[jj]
  refine Ry hl rfl rfl rfl rfl rfl Tryz.underlying22 rfl (c:=z.cells) (by rw[←jj];kernel_rfl) ?_;intro AUi Y2 AUO hl;refine DZ hl 0 rfl rfl (by simp) rfl rfl rfl rfl rfl rfl rfl Tryz.underlying22 Tryz.underlying22 rfl rfl AB (Cj (n:=1) (cap:=1) (new:=z.cells) AUO rfl) rfl rfl AB (by show D.length+1≤Ae;unfold Ae;omega) ?_;intro AUf Y3 hl
  obtain⟨As,rfl⟩:∃x,AUf= .slice x (D.length+1) (D.length+1):=Am.C5 (hl.gr _ Al)
  have hl:AE S [qJ,S',S] Y3 _ [L9 As (D++[z])]:=AFy hl
  refine zg ?_;refine sL hl 0 [.string nm,.slice As (D.length+1) (D.length+1)] fun V0 hl=>?_;refine zg ?_
  refine⟨L1.length-(i+1),AA,i+1,As,D++[z],AA,rfl,by rw[A8];omega,by rw[QO (AUh hx hy),Hm,hDx,hz];rfl,fun w hw=>?_,sE,by rw[A8];exact hl.marks (Us:=[S]) (fun T hT=>BQ (BQ hT))⟩
  rcases List.mem_append.1 hw with h|h
  ·exact(hDo w h).move (hl.since 1 rfl)
  rw[List.mem_singleton.1 h,hzC,hz]
  exact MD.move (hl.since 0 rfl)
 have RV:(List.zipWith AM5 L1 L2).length=D.length:=by
  rw[List.length_zipWith]
  have:=Jk Eh
  omega
 rw[List.take_of_length_le AA]at hDx
 have LG:=AOq (Am.ls (f:=Sp.cells) (fun _=>rfl) (hl.gr _ Al)) hDo
 rw[hDx]at LG
 have hl:=hl.mark
 refine zg ?_;refine sL hl 1 [.string nm,.slice av D.length D.length] fun S9 hl=>?_;refine zg ?_
 exact BA (Bm rfl (lN (z:=2) (hl.get 1 rfl) rfl) (BD rfl rfl)) ⟨hl.AD,av,by rw[RV],by rw[RV];exact LG.move (hl.since 0 rfl)⟩
set_option maxHeartbeats 4000000 in
theorem AUc(a:Option Addr)(cap:Nat)(L:List Int)(n m:Int)(hF:BW S)(hG:Gl S)(hv:CZ S (.slice a L.length cap) L):CC Tryz.prog KK 5 [.slice a L.length cap,.int .i64 n,.int .i64 m] S (fun v S'=>AL S S'∧(v= .bool true)):=by
 refine ce 172 Tryz.func5 fun hl=>?_;refine zg ?_
 refine zc hl rfl (AEh (v:= .bool true) rfl) ?_;rintro v S1 AM rfl hl
 refine zg ?_
 refine zc hl rfl (ANt a cap L (hl.AD.3 hF) (hv.move (hl.since 0 rfl))) ?_;rintro v S2 AM ⟨ae,E,rfl,hE,hM,hZ⟩ hl
 have hl:=hl.mark
 refine aL hl ([.string ⟨#[]⟩,.slice none 0 0]) fun B8 S4 hl=>?_;refine sL hl 0 [.string BB,.slice ae E.length E.length] fun S5 hl=>?_
 have Cc:∀x,x∈E→x.AT.length≤1000:=fun x hx=>Nat.le_trans (hM x hx).ok.2.2.2 (by decide)
 have jI:∀x,x∈E→0<A6 x:=fun x hx=>(hM x hx).ok.2.2.1
 refine zg ?_
 refine zc hl rfl (AOU BB ae E.length E (hl.AD.3 hF) (hE.move (hl.since 0 rfl))) ?_;rintro v S6 AM ⟨bb,rfl,hbb⟩ hl
 refine rr rfl (BY rfl rfl rfl) ?_;refine zg ?_;refine AZ (d:=31) rfl (fun Gy=>?_) (fun Gy=>?_)
 ·
  refine zg ?_
  exact(z1 rfl ⟨hl.AD,rfl⟩)
 have hbt:bb=true:=by simpa using Gy
 refine zg ?_
 constructor<;>intro Eg
 ·
  refine zg ?_
  exact(z1 rfl ⟨hl.AD,rfl⟩)
 have hE0:0<E.length:=by
  cases hE1:E with
  |nil=>rw[hE1]at Eg;cases Eg
  |cons x l=>exact Nat.succ_pos _
 obtain⟨_,hch⟩:=hbb hbt
 have Cz:=AOm hM hZ
 have h0:=AOn Cz hch
 have hE:=hE.move (hl.since 0 rfl)
 have GJ:=hl
 have h8:=hl.at_ B8 _ Al
 have hd:At S6 B8 (.cells [.string BB,.slice ae E.length E.length] 24 false true []):=⟨fun g=>(g.2 B8 h8.2.2).trans h8.1⟩
 have JU:=hl.AD.3 hF
 clear hl
 have hl:=BE.start S6
 refine zg ?_
 refine zc hl rfl (AUe BB ae E.length E AA Cc JU hE) ?_;rintro v S7 hk7 ⟨ay,D,fr,rfl,hDx,hDo,hO,hlw⟩ hl
 have MC:D.length=E.length:=by rw[←hDx,D1]
 clear hl
 have hl:AE S6 [S6] S7 (fr++[]) []:=by rw[List.append_nil];exact hlw
 have hl:=hl.mark
 refine aL hl ([.string ⟨#[]⟩,.slice none 0 0]) fun B9 S8 hl=>?_;refine sL hl 0 [.string BB,.slice ay D.length D.length] fun S9 hl=>?_;refine zg ?_
 refine zc hl rfl (YS n (E.length:Int) AA AA) ?_;rintro v GB AUl rfl hl
 have hb:=bj n (n:=(E.length:Int)) AA
 obtain⟨i,hi⟩:∃i:Nat,Jh n E.length=i:=⟨(Jh n E.length).toNat,AA⟩
 rw[hi]at hb ⊢
 have hDo:=hDo.move (hl.since 0 rfl)
 have hl:AE S6 [GB,S6] GB ([(B9,.cells [.string BB,.slice ay D.length D.length] 24 false true [])]++(fr++[])) []:=(hl.marks (Us:=[S6]) (fun T hT=>BQ hT)).mark
 refine zA ?_;refine AG rfl (Ex (fun Le Sx=>∃M,MoS S Sx B8 B9 ae ay E M∧Af [(9,ptrTo B9 0),(8,ptrTo B8 0),(7,.bool true),(6,.bool false)] Le) ?_ ?_)
 ·
  have Hh:i<D.length:=by omega
  obtain⟨y,hy⟩:=Ad Hh
  have hxE:nth E i=some y.x:=by rw[←hDx,CE,List.getElem?_map,←CE,hy];rfl
  have hym:=hM y.x (BV hxE)
  have jg:=hym.ok.2.2.2
  have Fm:=hDo y (BV hy)
  obtain⟨bv,rfl⟩:=OW.ne hO AA
  have hrw:=OW.at_ (f:=Sp.cells) (fun _=>rfl) hO hl Jg
  obtain⟨b1,o1,BF,ha,_,AQ,Aa⟩:=hrw.elem hy
  cases ha
  have Aa:takeN 2 (CH (0+i*2) BF)=some [.slice y.a y.x.AT.length y.c,.bool y.x.blank]:=Aa
  refine zg ?_
  constructor<;>intro FC
  ·
   have h1:1<y.x.AT.length:=dT FC
   refine zg ?_
   refine zc hl rfl (YS m (y.x.AT.length:Int) AA AA) ?_;rintro v Km AUm rfl hl
   have K5:=bj m (n:=(y.x.AT.length:Int)) AA
   obtain⟨k,hk⟩:∃k:Nat,Jh m y.x.AT.length=k:=⟨(Jh m y.x.AT.length).toNat,AA⟩
   rw[hk]at K5 ⊢
   obtain⟨a3,c3,hs3,h3⟩:=A0.upto (k:=k) Fm (hl.since 0 rfl) Tryz.underlying42 AB AA
   obtain⟨a4,AUq,jO,h4⟩:=A0.rest (k:=k+1) Fm (hl.since 0 rfl) Tryz.underlying42 AB AA
   refine zg ?_;refine BC (idx:=[0,1,2,3,4,5,6,7,8,9,10,12,13,14,15,16,17,18,19,20,11,21,22,23,24]) rfl AB AB ?_;refine zg ?_;refine pk rfl (cT rfl rfl rfl rfl rfl hs3) ?_;refine zg ?_;refine pk rfl (cT rfl rfl rfl rfl rfl jO) ?_
   have hlb:=hl
   have hrk:RK GB Km:=hl.since 0 rfl
   refine zp hl rfl (AUa a3 c3 (y.x.AT.take k) (by rw[List.length_take];omega) (h3.move (hl.since 0 rfl))) ?_;rintro v Ko AUn ⟨AUp,fz,rfl,hOz,hlz⟩ hl
   have XG:Fq Tryz.prog 42 (.slice y.a y.x.AT.length y.c) (some (.int .i64 ((k:Int)+1))) none none Ko=some (.slice a4 (y.x.AT.drop (k+1)).length AUq):=(AUX Fm (hl.since 0 rfl) hrk Tryz.underlying42 AB).trans jO
   refine⟨by repeat (first|exact trivial|refine oL ?_|(refine⟨by first|exact sZ|exact kf tt (sN rfl qG)|exact kl tt (CQ rfl rfl qL sG rfl)|exact kl tt (CQ rfl rfl qL sQ rfl)|exact slx rfl rfl (q5 rfl) sQ rfl|exact sly rfl rfl rfl XG sQ rfl,?_⟩)),?_⟩
   have h4:=h4.move (hl.since 0 rfl)
   clear hl
   have hl:AE S6 [GB,S6] Ko (((B9,.cells [.string BB,.slice (some ⟨bv,0,none⟩) D.length D.length] 24 false true [])::(fr++[]))++(fz++[])) []:=by
    rw[List.append_nil fz]
    exact AE.AUS hlb hlz
   refine AKM hl hOz rfl rfl rfl rfl rfl rfl rfl Tryz.underlying42 Tryz.underlying42 rfl rfl AB (A0.cells h4) (HF (f:=Sg.cells) (z:=17) (fun _=>rfl) _) (Zt (fun _=>rfl) _) AB (by unfold Ae;rw[List.length_take,List.length_drop];omega) ?_;intro v78 f2 Y1 hOz hl;refine⟨zt,?_⟩
   obtain⟨a5,rfl⟩:=hOz.is
   obtain⟨J,hJ⟩:∃J,J=y.x.AT.take k++y.x.AT.drop (k+1):=⟨_,rfl⟩
   have e5:(y.x.AT.take k).length+(y.x.AT.drop (k+1)).length=J.length:=by rw[hJ,DS]
   rw[e5]at hOz ⊢
   have hOz:OV a5 J f2:=by
    rw[←List.flatten_append,←Hm,←hJ]at hOz
    exact hOz
   have hJs:CW Y1 (.slice a5 J.length J.length) J:=OW.at_ (f:=Sg.cells) (fun _=>rfl) hOz hl Jg
   have hDo:=hDo.move (hl.since 0 rfl)
   have hl:AE S6 [S6] Y1 ([(B9,.cells [.string BB,.slice (some ⟨bv,0,none⟩) D.length D.length] 24 false true [])]++(fr++(f2++[]))) []:=(hl.marks (Us:=[S6]) (fun T hT=>BQ hT)).perm (.of_eq (by simp))
   obtain⟨z,hz⟩:∃z:Sp,z=⟨a5,J.length,⟨J,y.x.blank⟩⟩:=⟨_,rfl⟩
   obtain⟨bx,Vz,f3,e1,Cc,Ej,W3,hx3⟩:=AT5 (P:=Tryz.prog) (k:=0+((i:Nat):Int).toNat*2) (t:=42) (u:= .slice a5 J.length J.length) hl hO AA rfl AB (by rw[Nat.zero_add];exact zr (f:=Sp.cells) (z:=2) (fun _=>rfl) (x:=y) (y:=z) (j:=0) (by rw[hz];rfl) _ i hy) ((HF (f:=Sp.cells) (z:=2) (fun _=>rfl) _).trans ((congrArg (· *2) List.length_set).trans (HF (f:=Sp.cells) (z:=2) (fun _=>rfl) _).symm))
   cases e1
   refine zg ?_;refine R3 rfl rfl rfl rfl rfl rfl Cc zt ?_;refine zg ?_
   obtain⟨M,UH⟩:=AT' (z:=z) GJ (BQ Al) W3 hE hM hDx hxE (by rw[hz,hJ];exact AUJ hym h1 AA) (by unfold ATb;rw[List.length_set];exact Ej) ((hDo.rkx hx3).set (by rw[hz];exact ATv hx3 (by decide) hJs))
   exact⟨rfl,M,UH,sE⟩
  have h1:¬1<y.x.AT.length:=dF FC
  have hl:AE S6 [S6] GB ([(B9,.cells [.string BB,.slice (some ⟨bv,0,none⟩) D.length D.length] 24 false true [])]++(fr++[])) []:=hl.marks (Us:=[S6]) (fun T hT=>BQ hT)
  obtain⟨z,hz⟩:∃z:Sp,z=⟨y.a,y.c,⟨y.x.AT,false⟩⟩:=⟨_,rfl⟩
  obtain⟨bx,Vz,f3,e1,Cc,Ej,W3,hx3⟩:=AT5 (P:=Tryz.prog) (k:=0+((i:Nat):Int).toNat*2+1) (t:=4) (u:= .bool false) hl hO AA rfl AB (by rw[Nat.zero_add];exact zr (f:=Sp.cells) (z:=2) (fun _=>rfl) (x:=y) (y:=z) (j:=1) (by rw[hz];rfl) _ i hy) ((HF (f:=Sp.cells) (z:=2) (fun _=>rfl) _).trans ((congrArg (· *2) List.length_set).trans (HF (f:=Sp.cells) (z:=2) (fun _=>rfl) _).symm))
  cases e1
  refine zg ?_;refine R0 rfl rfl rfl rfl rfl rfl Cc ?_;refine zg ?_
  obtain⟨M,UH⟩:=AT' (z:=z) GJ (BQ Al) W3 hE hM hDx hxE (by rw[hz];exact AUI hym h1) (by unfold ATb;rw[List.length_set];exact Ej) ((hDo.rkx hx3).set (by rw[hz];exact ATv hx3 (by decide) Fm))
  exact⟨rfl,M,UH,sE⟩
 clear hl hd GJ hO hlw hDo;rintro Le qI ⟨M,⟨hSb,hY,hE,hl⟩,AH⟩;refine AK AH ?_
 have hMl:=hSb.len
 have hMz:=hSb.spot hM
 have UG:=hSb.cho hM hZ h0
 have hMs:∀x,x∈M→x.AT.length≤1000:=fun x hx=>Nat.le_trans (hMz x hx).2.2.2 (by decide)
 have hMp:∀x,x∈M→0<A6 x:=fun x hx=>(hMz x hx).2.2.1
 have hl:=hl.mark
 refine zg ?_
 refine zc hl rfl (ANe BB ay M.length M (by decide) AA (fun _=>by omega) hMs (hl.AD.3 hF) (hG.AD hl.AD) (hY.move (hl.since 0 rfl))) ?_;rintro v S16 AM hR hl
 obtain⟨ap,P,rfl,hP,DC,KG,UJ,H8⟩:∃ap P,v=Aw [.slice ap P.length P.length,.int .i64 0]∧eS BB S16 (.slice ap P.length P.length) P∧(∀x,x∈P→x.Ok S16)∧P.map Pr.C=Eo BB.data.toList M (BR M)∧P.length≤4096∧∀x,x∈P→x.C.length≤1000:=by
  rcases hR with ⟨h,_⟩|⟨_,h⟩
  ·exact absurd UG h
  exact h
 have hE:=hE.move (hl.since 0 rfl)
 have hY:=hY.move (hl.since 0 rfl)
 have hl:=(hl.marks (Us:=[S]) (fun T hT=>BQ hT)).mark
 refine zg ?_
 refine zc hl rfl (AUb BB ay ae M.length E.length M E (hSb.check hM hZ) Cz hMl (hSb.two hM) AA (fun x hx=>Nat.le_trans (hMz x hx).2.2.2 (by decide)) (fun x hx=>Nat.le_trans (hM x hx).ok.2.2.2 (by decide)) (hl.AD.3 hF) (hG.AD hl.AD) hY hE) ?_;rintro v eU AM ⟨AUp,rfl,AUs⟩ hl
 have hZ1:=hSb.mrg hM
 obtain⟨hL1,hL2⟩:=LeS.merge hMl
 have hZl:=AUg hMl
 have hLM:=hSb.le
 generalize List.zipWith AM5 M E=Z at AUs hZ1 hL1 hL2 hZl ⊢
 have hZs:∀x,x∈Z→x.AT.length≤1000:=fun x hx=>Nat.le_trans (hZ1 x hx).2.2 (by decide)
 have hZc:=AT7 (fun x hx=>⟨(hZ1 x hx).1,(hZ1 x hx).2.1⟩) (by omega:Z.length≤14)
 have hE:=hE.move (hl.since 0 rfl)
 have hP:=A0.move (hl.since 0 rfl) hP
 have DC:=fun x hx=>(DC x hx).move (hl.since 0 rfl)
 have hl:=(hl.marks (Us:=[S]) (fun T hT=>BQ hT)).mark
 refine zg ?_;refine aL hl ([.string ⟨#[]⟩,.slice none 0 0]) fun QS NC hl=>?_;refine sL hl 0 [.string BB,.slice AUp Z.length Z.length] fun qJ hl=>?_;refine zA ?_;refine AG rfl ?_;refine zg ?_;refine AK (L':=[(17,.int .i64 0),(15,ptrTo QS 0),(14,.int .i64 0),(13,.slice ap P.length P.length),(8,ptrTo B8 0),(7,.bool true),(6,.bool false)]) sE ?_
 refine A2 rfl (fun m Le S'=>∃k:Nat,k≤P.length∧m=P.length-k∧Af [(17,.int .i64 (k:Int)),(15,ptrTo QS 0),(14,.int .i64 0),(13,.slice ap P.length P.length),(8,ptrTo B8 0),(7,.bool true),(6,.bool false)] Le∧AE S [eU,S] S' [(QS,.cells [.string BB,.slice AUp Z.length Z.length] 24 false true []),(B8,.cells [.string BB,.slice ae E.length E.length] 24 false true []),(B9,.cells [.string BB,.slice ay M.length M.length] 24 false true [])] []) ?_ (m:=P.length) ⟨0,AA,AA,sE,hl⟩
 clear hl;rintro m Le S' ⟨k,hk,rfl,AH,hl⟩;refine AK AH ?_
 refine zg ?_
 constructor<;>intro AUK
 ·
  have AN:k<P.length:=dT AUK
  obtain⟨y,hy⟩:=Ad AN
  have vX:nth (Eo BB.data.toList M (BR M)) k=some y.C:=by rw[←KG,CE,List.getElem?_map,←CE,hy];rfl
  have uS:=ATt Cz hMp vX hLM
  have UP:=ATt hZc hMp vX hL1
  have jg:=H8 y (BV hy)
  have XM:=DC y (BV hy)
  obtain⟨b1,o1,BF,ha,_,AQ,Aa⟩:=hP.elem hy
  refine zg ?_;refine BC (idx:=[0,1,2,3,4,5,6,7,8,9,10]) rfl AB AB ?_;refine zg ?_
  refine zp hl rfl (C8 (ANz BB BB ae y.a E.length y.c E y.C AA jg Cc (hE.move (hl.since 0 rfl)) (XM.move (hl.since 0 rfl)) (hG.AD hl.AD)) fun v S' h=>⟨h.1,(h.2.trans (by rw[uS]):v=Aw [.bool true,.int .i64 0])⟩) ?_;rintro v Y2 AM rfl hl;refine⟨zt,?_⟩
  refine zg ?_;refine BC (idx:=[0,1,2,3,4,5,6,7,8,9,10]) rfl AB AB ?_;refine zg ?_
  refine zp hl rfl (C8 (ANz BB BB AUp y.a Z.length y.c Z y.C AA jg hZs (AUs.move (hl.since 0 rfl)) (XM.move (hl.since 0 rfl)) (hG.AD hl.AD)) fun v S' h=>⟨h.1,(h.2.trans (by rw[UP]):v=Aw [.bool true,.int .i64 0])⟩) ?_;rintro v Y3 AM rfl hl;refine⟨zt,?_⟩
  refine zg ?_;refine rr rfl (BY rfl rfl rfl) ?_;refine zg ?_;refine rr rfl (BY rfl rfl rfl) ?_;refine zg ?_
  exact⟨P.length-(k+1),AA,k+1,AA,rfl,sE,hl⟩
 refine zg ?_
 refine zc hl rfl (ANe BB ae E.length E (by decide) AA (fun _=>by omega) Cc (hl.AD.3 hF) (hG.AD hl.AD) (hE.move (hl.since 0 rfl))) ?_;rintro v Y2 AM hR hl
 obtain⟨ap2,AUo,rfl,hP2,UK,AUM,AUj,AUN⟩:∃ap P,v=Aw [.slice ap P.length P.length,.int .i64 0]∧eS BB Y2 (.slice ap P.length P.length) P∧(∀x,x∈P→x.Ok Y2)∧P.map Pr.C=Eo BB.data.toList E (BR E)∧P.length≤4096∧∀x,x∈P→x.C.length≤1000:=by
  rcases hR with ⟨h,_⟩|⟨_,h⟩
  ·exact absurd h0 h
  exact h
 have AUs:=AUs.move (hl.since 0 rfl)
 have hl:=(hl.marks (Us:=[S]) (fun T hT=>BQ hT)).mark
 refine zg ?_;refine AK (L':=[(22,.int .i64 0),(15,ptrTo QS 0),(14,.int .i64 0),(13,.slice ap2 AUo.length AUo.length),(7,.bool true),(6,.bool false)]) sE ?_
 refine A2 rfl (fun m Le S'=>∃k:Nat,k≤AUo.length∧m=AUo.length-k∧Af [(22,.int .i64 (k:Int)),(15,ptrTo QS 0),(14,.int .i64 0),(13,.slice ap2 AUo.length AUo.length),(7,.bool true),(6,.bool false)] Le∧AE S [Y2,S] S' [(QS,.cells [.string BB,.slice AUp Z.length Z.length] 24 false true []),(B8,.cells [.string BB,.slice ae E.length E.length] 24 false true []),(B9,.cells [.string BB,.slice ay M.length M.length] 24 false true [])] []) ?_ (m:=AUo.length) ⟨0,AA,AA,sE,hl⟩
 clear hl;rintro m Le S' ⟨k,hk,rfl,AH,hl⟩;refine AK AH ?_
 refine zg ?_
 constructor<;>intro AUL
 ·
  have AN:k<AUo.length:=dT AUL
  obtain⟨y,hy⟩:=Ad AN
  have vX:nth (Eo BB.data.toList E (BR E)) k=some y.C:=by rw[←AUM,CE,List.getElem?_map,←CE,hy];rfl
  have UP:=ATt hZc jI vX hL2
  have jg:=AUN y (BV hy)
  have XM:=UK y (BV hy)
  obtain⟨b1,o1,BF,ha,_,AQ,Aa⟩:=hP2.elem hy
  refine zg ?_;refine BC (idx:=[0,1,2,3,4,5,6,7,8,9,10]) rfl AB AB ?_;refine zg ?_
  refine zp hl rfl (C8 (ANz BB BB AUp y.a Z.length y.c Z y.C AA jg hZs (AUs.move (hl.since 0 rfl)) (XM.move (hl.since 0 rfl)) (hG.AD hl.AD)) fun v S' h=>⟨h.1,(h.2.trans (by rw[UP]):v=Aw [.bool true,.int .i64 0])⟩) ?_;rintro v Y3 AM rfl hl;refine⟨zt,?_⟩
  refine zg ?_;refine rr rfl (BY rfl rfl rfl) ?_;refine zg ?_
  exact⟨AUo.length-(k+1),AA,k+1,AA,rfl,sE,hl⟩
 refine zg ?_
 exact y1 rfl ⟨hl.AD,rfl⟩
end Go.Proofs.YtmfphenhpkgidaaGreatDoor
namespace Go.Proofs.YtmfphenhpkgidaaGreatDoor
open Go.Cm Go
set_option maxRecDepth 100000
variable{S:St}
theorem qS:∀{C:List (List Value)},(∀x,x∈C→∃m:Int,x= [.int .i64 m])→∃L:List Int,C=L.map fun i=>[Value.int .i64 i]
 | [],_=>⟨[],rfl⟩
 |x::C,h=>by
  obtain⟨s,e1⟩:=h x Al
  obtain⟨L,e2⟩:=qS (C:=C) fun y hy=>h y (BQ hy)
  exact⟨s::L,by rw[e1,e2];rfl⟩
theorem AJ9{c:List Value}{n:Nat}(h:DV Tryz.prog (n+2) 38 S c):∃(a:Option Addr) (cap:Nat) (L:List Int),c= [.slice a L.length cap]∧CZ S (.slice a L.length cap) L:=by
 obtain⟨v,C,e1,h1,hC⟩:=AJ' h Tryz.underlying38 (z:=1) AB
 obtain⟨L,rfl⟩:=qS fun x hx=>AJ8 (hC x hx) Tryz.underlying3
 have hs:CZ S v L:=h1
 obtain⟨a,cap,rfl⟩:=A0.is hs
 exact⟨a,cap,L,e1,hs⟩
theorem AHx{W:World}(h:J0 W):Jz Tryz.prog KK W:=by
 refine⟨Zo _,fun f args S v hv=>?_⟩
 simp only[KK,kk,rp]at hv
 split at hv
 ·cases hb:Nat.beq f 17 with
  |true =>
   rw[hb]at hv
   cases hv
   obtain rfl:=Bc hb
   exact⟨fun ρ=> .bool _,Tryz.f17,_,Tryz.func17,er,by kernel_rfl,ABT fun w hk=>ASF (Xa hk h)⟩
  |false =>
   rw[hb]at hv
   cases hv
 cases hv
theorem AF1:Tryz.prog.globals.size=3:=by kernel_rfl
theorem AOv:Gl (Kb listed Tryz.prog.globals.size) :=
 ⟨Nat.le_of_ble_eq_true (show Nat.ble (0+1) Tryz.prog.globals.size=true by kernel_rfl),by kernel_rfl⟩
theorem AOu:BW (Kb listed Tryz.prog.globals.size):=by
 intro b hb
 cases h:(Kb listed Tryz.prog.globals.size).get b with
 |none=>rfl
 |some B =>
  obtain⟨l,hl,_⟩:=dh Tryz.prog.globals.size listed b B h
  have Bj:3≤b:=AF1▸hb
  rcases xD b l hl with ⟨rfl,_⟩|⟨rfl,_⟩|⟨rfl,_⟩<;>omega
theorem AUR{W:World}(hm:J0 W){H:Type}{enc:TypeId×Value→H}{a1:Option Addr}{l1 k1:Nat}{n m:Int}{d1:DataW H}{p1:List MemPlace}
  (h1:DataW.Trod enc Tryz.prog W 0 (fun _=>true) true 38 (.slice a1 l1 k1) d1 p1)
  {f:FuncId}{fn:Func}{c:Code}(hf:Tryz.prog.funcs[f]?=some fn)(hb:fn.body=some c)(Ch:(fn.name== "runtime.NumGoroutine")=false)
  (spec:∀(S:St) (ax:Option Addr) (cx:Nat) (X:List Int),BW S→Gl S→CZ S (.slice ax X.length cx) X →
   CC Tryz.prog KK f [.slice ax X.length cx,.int .i64 n,.int .i64 m] S fun v _=>v= .bool true) :
  Calls Tryz.prog f #[.slice a1 l1 k1,.int .i64 n,.int .i64 m] W fun e w=>e= .returned (.bool true)∧Kept W w:=by
 obtain⟨AFo,h1⟩:=h1
 have LF:=oK (P:=Tryz.prog) (size_le hm) hm bY
 obtain⟨ρ1,S1,c1,x1,s1,e1,r1,q1⟩:=lay (P:=Tryz.prog) (w0:=⟨W,fun _=>false⟩) 7 38 AFo _ _ _ AB (fun _=>rfl) h1 _ _ LF
 obtain⟨ax,cx,X,rfl,Cc⟩:=AJ9 (n:=5) q1
 refine(AEb follows (AHx hm) hf hb Ch s1 (args':= #[.slice a1 l1 k1,.int .i64 n,.int .i64 m]) (AS.cons (AS.head r1) (AS.cons (.int _ _) (AS.cons (.int _ _) AS.nil))) (spec S1 ax cx X (e1.3 AOu) (AOv.AD e1) Cc)).mono ?_
 rintro e w ⟨v,ρ',v',hv,hr,he,hk⟩
 subst hv
 cases hr
 exact⟨he,hk⟩
end Go.Proofs.YtmfphenhpkgidaaGreatDoor
namespace Go.Proofs.YtmfphenhpkgidaaGreatDoor
open Go.Cm Go
set_option maxRecDepth 100000
variable{S:St}
open Go.ChangeShapes Go.WideShapes Go.ChangeAt Go.RowKit
theorem AJK:ownKnob Tryz.prog.godebug=none:=by kernel_rfl
theorem _root_.Go.Cm.Kept.but{W w:World}(h:Kept W w)(may:MemPlace→Prop):W.keptBut w may:=by
 refine⟨h.os,h.out,fun i hi=>?_⟩
 rw[h.old i hi]
 cases W.heap[i]? with
 |none=>rfl
 |some o=>cases o<;>first|exact⟨rfl,rfl,rfl,fun _ _=>rfl⟩|exact .inr ⟨rfl,rfl⟩|rfl
theorem AJW{H:Type}{enc:TypeId×Value→H}{P:Program}{f:Func}{s:ChangeSpec}{apart fresh handsOn:Bool}{W W':World}{args:Array Value}{ds gs:List (DataW H)}{before pa pv:List MemPlace}{t:TypeId}
  (hr:f.resultTypes= #[t])(ht:P.underlying t=some .bool)(hs:(s.fn H (ds++gs)).results= [.lit (.bool true)])
  (hW:DataW.Whole enc P f.params.toList s.vars apart W args.toList ds gs before)(hk:Kept W W')
  (O3:DataW.TrodAll enc P W' 0 (fun b=>decide (b<W.heap.size)) true f.params.toList args.toList (s.fn H (ds++gs)).args pa)
  (AHU:DataW.TrodVars enc P W' (fun b=>decide (b<W.heap.size)) s.vars (s.fn H (ds++gs)).vars pv):s.post enc P f apart fresh handsOn false W args (.bool true) W':=by
 refine⟨ds,gs,before,[],pa,pv,hW,?_,O3,AHU,hk.but _,fun h=>by cases h⟩
 rw[hr,hs]
 exact trodAll_mk1 (shut_bool ht _)
def holds(l:List Value):Obj→Obj
 | .cells _ t frozen=> .cells l.toArray t frozen
 |o=>o
noncomputable def AH1(h:Array Obj):Array Obj:=(((h).modify 0 (holds l4)).modify 1 (holds l5)).modify 2 (holds bq)
noncomputable def lQ(os:Os):World :=
 {World.holding Tryz.prog os ⟨#[], #[],[]⟩with heap:=AH1 (World.holding Tryz.prog os ⟨#[], #[],[]⟩).heap}
def za:Array Value:= #[.slice none 0 0,.int .i64 0,.int .i64 0]
def zd{H:Type}:List (DataW H):=[.nil,.lit (.int .i64 0),.lit (.int .i64 0)]
theorem AH2(os:Os):laidMet Tryz.prog Rows.sourceMoreRow.laid ((lQ os).forCall (fun _ _=>0) ⟨#[],za,[]⟩).memory :=
 laidMet_of_run' 8 AB AB
theorem reads(os:Os){H:Type}(enc:TypeId×Value→H):∃places,DataW.whole enc Tryz.prog ((lQ os).forCall (fun _ _=>0) ⟨#[],za,[]⟩).memory Tryz.f5.params.toList Rows.sourceMoreSpec.vars false za.toList 8=some (zd,[],places) :=
 ⟨[],by kernel_rfl⟩
theorem AH3:qC Rows.sourceMoreRow.laid:=by
 refine⟨?_,?_,?_⟩
 all_goals
  show _∈[_,_,_]
  simp only[List.mem_cons,true_or,or_true]
theorem mT:Tryz.f5.params= #[38,3,3]:=by kernel_rfl
theorem AEy(H:Type)(enc:TypeId×Value→H)(W:World)(base:Nat)(args:Array Value)(ds gs:List (DataW H))(before:List MemPlace)
  (Ub:∀(j:Nat) t v,Tryz.f5.params[j]?=some t→args[j]?=some v→Value.okWide Tryz.prog W .any base t v)
  (hW:DataW.Whole enc Tryz.prog Tryz.f5.params.toList Rows.sourceMoreSpec.vars false W args.toList ds gs before)(hL:laidMetH Tryz.prog Rows.sourceMoreRow.laid W) :
  Calls Tryz.prog 5 args W fun e W'=>∃v,e= .returned v∧Rows.sourceMoreSpec.post enc Tryz.prog Tryz.f5 false true false false W args v W':=by
 have hW':=hW
 obtain⟨p,q,tr,hV,rfl,UP,Gf⟩:=hW
 have hA:DataW.TrodAll enc Tryz.prog W 0 (fun _=>true) true Tryz.f5.params.toList args.toList ds p:=tr
 rw[mT]at hA Ub
 obtain⟨v1,v2,AUu,d1,d2,d3,p1,p2,p3,rfl,rfl,rfl,h1,h2,h3⟩:=trodAll_three hA
 obtain⟨rfl,rfl⟩:=trodVars_none hV
 obtain⟨x1,y1,z1,rfl⟩:=okWide_slice Tryz.underlying38 (Ub 0 38 v1 rfl rfl)
 obtain⟨n,rfl⟩:=okWide_int Tryz.underlying3 (Ub 1 3 v2 rfl rfl)
 obtain⟨m,rfl⟩:=okWide_int Tryz.underlying3 (Ub 2 3 AUu rfl rfl)
 clear tr
 refine(AUR (AIK AH3 hL) h1 Tryz.func5 (c:=(cb Tryz.f5)) AB AB (fun S ax cx X hF hG hx=>C8 (AUc ax cx X n m hF hG hx) fun v S' h=>h.2)).mono fun e W' ⟨he,hk⟩=>?_
 subst he
 refine⟨_,rfl,AJW (pa:=p1++p2++p3) (pv:=[]) (t:=4) AB AB rfl hW' hk ?_ ?_⟩
 ·rw[mT]
  exact zP hk 7 _ _ _ _ AB hA
 exact rfl
theorem lifted(os:Os)(started:os.Started)(H:Type)(enc:TypeId×Value→H)(F:Stop.Interp) :
  ReturnsInHanded {} Tryz.checked os 5 .any ((OpenSpec.ofChange Rows.sourceMoreSpec).preRow enc Tryz.prog Tryz.f5 Rows.sourceMoreRow.domain false Rows.sourceMoreRow.laid) (((OpenSpec.ofChange Rows.sourceMoreSpec).at F).post enc Tryz.prog Tryz.f5 false true false false):=by
 obtain⟨places,hx⟩:=reads os enc
 refine returnsInHanded_of_row (C:=Tryz.checked) (s:=OpenSpec.ofChange Rows.sourceMoreSpec) AJK started AB Tryz.func5
  (witness_row_at (enc:=enc) (C:=Tryz.checked) false (lQ os) za rfl AB AB AB
   (OpenSpec.preRow_of_cond 8 hx AB (fun k hk=>by cases hk) AB (AH2 os))) ?_
 intro W base args ds gs before Ub hW _ _ _ hL _ _
 exact AEy H enc W base args ds gs before Ub hW hL
theorem said:Rows.SourceMoreSaid :=
 OpenClaim.holds_of_cond 5 Tryz.f5 rfl rfl rfl rfl rfl rfl rfl ⟨rfl,rfl,rfl,rfl,rfl⟩ rfl rfl rfl rfl rfl AB Tryz.func5 AHq
  (I6 AB) (by unfold Func.isWrapper;first|(rw[if_pos (by decide+kernel)];kernel_rfl)|(rw[if_neg (by decide+kernel)];exact⟨rfl,rfl⟩))
  (fun os started H enc _ F=>by rw[OpenClaim.pre_eq_preRow];exact lifted os started H enc F)
theorem plain(f:FuncId)(fn:Func)(hf:Tryz.pinned.checked.prog.funcNamed "tactus/tactuslaw36.SourceMore" =some f)(Q8:Tryz.pinned.checked.prog.funcs[f]?=some fn) :
  true=Tryz.pinned.checked.prog.looks []∧∀(j:Nat) t,fn.params[j]?=some t→Tryz.pinned.checked.prog.wantsStandIn t=false:=by
 obtain rfl:f=5:=Option.some.inj ((show Tryz.prog.funcNamed "tactus/tactuslaw36.SourceMore" =some 5 by kernel_rfl).symm.trans hf) |>.symm
 obtain rfl:fn=Tryz.f5:=(Option.some.inj (Tryz.func5.symm.trans Q8)).symm
 refine⟨by kernel_rfl,fun j t ht=>?_⟩
 rw[mT]at ht
 have KL:=Array.mem_of_getElem? ht
 obtain rfl|rfl:t=38∨t=3:=by simpa using KL
 ·exact(show Tryz.prog.wantsStandIn 38=false by kernel_rfl)
 exact(show Tryz.prog.wantsStandIn 3=false by kernel_rfl)
theorem card:Rows.SourceMoreCardSaid :=
 Claim7.holds_tied_plain_at .later [] _ _ _ _ said (fun _ h=>by cases h) AB (fun _ h=>by cases h) sourceMore_row_tie rfl ⟨rfl,rfl⟩ AB rfl plain AB
end Go.Proofs.YtmfphenhpkgidaaGreatDoor

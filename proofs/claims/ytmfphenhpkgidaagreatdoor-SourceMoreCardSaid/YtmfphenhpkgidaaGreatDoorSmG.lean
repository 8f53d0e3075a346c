/-
  The kit: numbers; a maker of signs.
-/
import Derived.Test.YtmfphenhpkgidaaGreatDoorSmF
import Derived.Test.YtmfphenhpkgidaaGreatDoorSmB
namespace Go.Proofs.YtmfphenhpkgidaaGreatDoor
open Go.Cm Go
set_option maxRecDepth 100000
variable{S:St}
theorem YS(a n:Int)(hn:0<n)(IB:n≤2000000):CC Tryz.prog KK 23 [.int .i64 a,.int .i64 n] S (fun v S'=>AL S S'∧(v= .int .i64 (Jh a n))):=by
 refine ce 16 Tryz.func23 fun hl=>?_
 have hb:=AAx a hn
 refine zg ?_
 constructor<;>intro h6
 ·
  have:=I6 h6;omega
 refine Ar rfl ?_;refine zS ?_;refine AG rfl (Ex (fun Le S'=>Af [(0,.int .i64 (Jh a n))] Le∧AE S [S] S' [] []) ?_ ?_)
 ·
  refine zg ?_
  constructor<;>intro Ba
  ·
   refine zg ?_
   exact⟨rfl,⟨congrArg some (congrArg (Value.int .i64) (AIe Ba)),trivial⟩,hl⟩
  refine zg ?_
  exact⟨rfl,⟨congrArg some (congrArg (Value.int .i64) (AIf Ba)),trivial⟩,hl⟩
 clear hl;rintro Le3 S1 ⟨AHS,hl⟩;refine AK AHS ?_
 refine zg ?_
 exact(y1 rfl ⟨hl.AD,rfl⟩)
theorem AOT(a:Option Addr)(cap:Nat)(L:List Int)(i:Nat)(hv:CZ S (.slice a L.length cap) L):CC Tryz.prog KK 58 [.slice a L.length cap,.int .i64 (i:Int)] S (fun v S'=>AL S S'∧(∃k:Int,v= .int .i64 k)):=by
 refine ce 17 Tryz.func58 fun hl=>?_;refine zS ?_;refine AG rfl ?_;refine AG rfl (CR hl 12 (.bool (decide ((i:Int)<0)||decide ((i:Int)≥L.length))) ?_ rfl ?_)
 ·
  refine zg ?_
  exact⟨rfl,bl (by simp;omega),sB,hl⟩
 intro S1 hl
 refine zg ?_
 constructor<;>intro Cf
 ·
  refine zg ?_
  exact(z1 rfl ⟨hl.AD,_,rfl⟩)
 have AN:i<L.length:=by have:=Cf;simp at this;omega
 obtain⟨x,hx⟩:=Ad AN
 obtain⟨b1,o1,BF,ha,_,AQ,Aa⟩:=hv.elem hx
 refine zg ?_
 exact(y1 rfl ⟨hl.AD,_,rfl⟩)
theorem ANX:CC Tryz.prog KK 106 [.int .i64 0] S (fun v S'=>AL S S'∧(v=AX [.int .i64 2,.int .i64 2,.int .i64 2,.int .i64 2])):=by
 refine ce 21 Tryz.func106 fun hl=>?_;refine zg ?_;refine aL hl [.int .i64 0,.int .i64 0,.int .i64 0,.int .i64 0] fun B2 S2 hl=>?_;refine zg ?_
 refine zc hl rfl (C8 (YS 0 16 AA AA) fun v S' h=>⟨h.1,(h.2.trans rfl:v= .int .i64 0)⟩) ?_;rintro v S3 AM rfl hl
 refine zg ?_;refine rr rfl (A9 rfl rfl (v:=AX [.int .i64 2,.int .i64 2,.int .i64 2,.int .i64 2]) (by rfl)) ?_;refine sL hl 0 [.int .i64 2,.int .i64 2,.int .i64 2,.int .i64 2] fun S4 hl=>?_;refine zg ?_
 exact BA (Bm rfl (lN (z:=4) (hl.get 0 rfl) rfl) rfl) ⟨hl.AD,rfl⟩
def Gj(nm:ByteArray)(a:Option Addr)(n k:Nat)(m0 m1 m2 m3 pl:Int)(op dt:Bool):List Value:=[.string nm,.slice a n k,.int .i64 m0,.int .i64 m1,.int .i64 m2,.int .i64 m3,.int .i64 pl,.bool op,.bool dt]
abbrev OV(a:Option Addr)(D:List Sg)(fr:List (Nat×AF)):Prop:=OW (.slice a D.length D.length) 55 17 ((D.map Sg.cells).flatten) D.length fr
set_option maxHeartbeats 4000000 in
theorem AOe(S0:St)(l:List (Nat×AF))(B:Nat)(nm:ByteArray)(a:Option Addr)(D:List Sg)(m0 m1 m2 m3 pl:Int)(op dt:Bool)(fr:List (Nat×AF))(s:Sg)(d:Bool)(hF:BW S0)(hD:D.length≤1000)(hO:OV a D fr)(hl:AE S0 [S0] S ([(B,.cells (Gj nm a D.length D.length m0 m1 m2 m3 pl op dt) 135 false true [])]++(fr++l)) []):CC Tryz.prog KK 82 [ptrTo B 0,s.v,.bool d] S (fun v S'=>∃a2 NZ,v=Aw []∧OV a2 (D++[s]) NZ∧AE S0 [S0] S' ([(B,.cells (Gj nm a2 (D++[s]).length (D++[s]).length m0 m1 m2 m3 pl op d) 135 false true [])]++(NZ++l)) []):=by
 refine ce 22 Tryz.func82 fun _=>?_
 unfold Gj at hl ⊢
 refine zg ?_;refine bL hl fun B4 S4 hl=>?_;refine zg ?_;refine BC (idx:=[0,1,2,3,4,5,6,7,8,9,10,11,12]) rfl AB AB ?_;refine zg ?_
 have hl:AE S0 [S0] S4 ([(B4,.cells s.cells 55 false true []),(B,.cells [.string nm,.slice a D.length D.length,.int .i64 m0,.int .i64 m1,.int .i64 m2,.int .i64 m3,.int .i64 pl,.bool op,.bool dt] 135 false true [])]++(fr++l)) []:=hl
 refine MX hF hl rfl rfl rfl rfl rfl Tryz.underlying42 rfl (c:=s.cells) AB ?_;intro JH S7 AGV UU hl
 refine nL hl hO rfl rfl rfl rfl rfl rfl rfl Tryz.underlying42 Tryz.underlying42 rfl rfl (by decide) AB (Cj (n:=1) (cap:=1) (new:=s.cells) UU rfl) rfl rfl AB (by show D.length+1≤Ae;unfold Ae;omega) ?_;intro v14 f3 S8 Ej hl;refine⟨zt,?_⟩
 obtain⟨a3,rfl⟩:=Ej.is
 have Ej:OV a3 (D++[s]) f3:=Ej.push (f:=Sg.cells)
 have e3:D.length+1=(D++[s]).length:=(A8 ..).symm
 rw[e3]
 refine zg ?_
 refine pL hl 1 ([.string nm,.slice a3 (D++[s]).length (D++[s]).length,.int .i64 m0,.int .i64 m1,.int .i64 m2,.int .i64 m3,.int .i64 pl,.bool op,.bool dt]) (h:=fun S9 hl=>⟨zt,?_⟩)
 refine zg ?_;refine sL hl 1 ([.string nm,.slice a3 (D++[s]).length (D++[s]).length,.int .i64 m0,.int .i64 m1,.int .i64 m2,.int .i64 m3,.int .i64 pl,.bool op,.bool d]) fun GB hl=>?_;refine zg ?_
 exact On rfl ⟨a3,f3,rfl,Ej,hl.tail⟩
theorem ANH{α:Type}{c0 c1 new:List α}(h:new.length=c1.length):Bq c0.length new (c0++c1)=some (c0++new):=by
 obtain⟨r,hr⟩:=nq c0.length new (c0++c1) (by rw[DS];omega)
 rw[hr]
 obtain⟨h1,_,h3⟩:=VL _ _ _ _ hr
 congr 1
 apply List.ext_getElem?
 intro i
 rw[h3 i]
 split
 ·rename_i hi
  rw[List.getElem?_append_right hi.1]
 rename_i hi
 rcases Nat.lt_or_ge i c0.length with h4|h4
 ·rw[List.getElem?_append_left h4,List.getElem?_append_left h4]
 have h5:c0.length+new.length≤i:=by omega
 rw[List.getElem?_eq_none (by rw[DS];omega),List.getElem?_eq_none (by rw[DS];omega)]
section
variable{P:Program}{K:BX}{n:Nat}{L:Env}{S S0:St}{Q:CV}{ops:List Oper}{d:Nat}{o:Oper}{q l:List (Nat×AF)}{AJ:List Nat}{pl:List (Oper×Nat)}{j:Nat}{E:List DE}
theorem AB5{a:Option Addr}{e:TypeId}{z:Nat}{c0 c1:List Value}{fr:List (Nat×AF)}(hl:AE S0 [S0] S (q++(fr++l)) [])(hg:OW (.slice a 2 2) e z (c0++c1) 2 fr){ts:Array TypeId}{sT xT:TypeId}{xd:TypeDesc}{x:Value}{new:List Value}
  (h0:c0.length=z)(h1:c1.length=z)(CT:ts.toList= [sT,xT])(hu:P.underlying sT=some (.slice e))(Dd:P.underlying xT=some xd)(hi:FV xd=false)(hlen:F6 x=some 1)(hz:A5 P e=some z)(hs:EN S z 1 x=some new)
  (Cb:new.length=z)(GL:0<z)(hc:new.all D9=true) :
  ∃Cs S',ER P .append ts.toList [.slice a 1 2,x] S=some (.slice a 2 2,S')∧OW (.slice a 2 2) e z (c0++new) 2 Cs∧AE S0 [S0] S' (q++(Cs++l)) []:=by
 rcases hg with ⟨h,_,_,_⟩|⟨b,dd,hv,G1,rfl,_⟩
 ·cases h
 cases hv
 have hl:=hl.perm (List.perm_append_comm_assoc q _ l)
 have CY:=hl.perm (List.perm_append_comm)
 have hb:=CY.at_ b _ (List.mem_append.2 (.inr Al))
 refine⟨[(b,.cells (c0++new) e true true [])],(S.kill (dd.map (·.1))).set b (.cells (c0++new) e true true []),?_,.inr ⟨b,[],rfl,by rw[DS];omega,rfl,fun _ h=>(List.not_mem_nil h).elim⟩,((CY.mi (.cells (c0++new) e true true [])).perm List.perm_append_comm).perm (List.perm_append_comm_assoc [_] q l)⟩
 unfold ER
 simp only
 have hw:Jx S b (0+1*z) new=some ((S.kill (dd.map (·.1))).set b (.cells (c0++new) e true true [])):=by
  unfold Jx
  rw[hb.1]
  have e1:Nat.blt 0 new.length=true:=Nat.ble_eq_true_of_le AA
  have e2:Bq (0+1*z) new (c0++c1)=some (c0++new):=by
   rw[Nat.zero_add,Nat.one_mul,←h0]
   exact ANH AA
  simp only[hc,e1,Bool.and_self,cond_true,e2]
 have:Fx P ts.toList (.slice (some ⟨b,0,none⟩) 1 2) x S=some (.slice (some ⟨b,0,none⟩) 2 2,(S.kill (dd.map (·.1))).set b (.cells (c0++new) e true true [])):=by
  unfold Fx
  rw[CT]
  simp only[hu,Dd,hlen,hi,hz,hs,cond_false]
  unfold Fw
  have e3:Nat.ble (1+1) 2=true:=rfl
  rw[e3,cond_true]
  unfold Tv
  have e4:Nat.beq new.length 0=false:=MP AA
  simp only[e4,cond_false,hw]
 rw[this]
theorem AKL{a:Option Addr}{e:TypeId}{z:Nat}{c0 c1:List Value}{fr:List (Nat×AF)}{k:Nat}(hl:AE S0 [S0] S (q++(fr++l)) [])(hg:OW (.slice a 2 2) e z (c0++c1) 2 fr){ar:Array Operand}{ts:Array TypeId}{sT xT:TypeId}{xd:TypeDesc}{x:Value}{new:List Value}
  (h0:c0.length=z)(h1:c1.length=z)(ho:nth pl k=some (o,j))(AV:o.op= .call ⟨.builtin .append,ar,ts⟩)(hw:Be ops L o=some true)(Hg:o.dst=some d)(AN:Nat.blt d n=true)(hx:Cm.D3 L ar.toList=some [.slice a 1 2,x])(CT:ts.toList= [sT,xT])
  (hu:P.underlying sT=some (.slice e))(Dd:P.underlying xT=some xd)(hi:FV xd=false)(hlen:F6 x=some 1)(hz:A5 P e=some z)(hs:EN S z 1 x=some new)
  (Cb:new.length=z)(GL:0<z)(hc:new.all D9=true)
  (h:∀Cs S',OW (.slice a 2 2) e z (c0++new) 2 Cs→AE S0 [S0] S' (q++(Cs++l)) []→FP P n S' ((nth AJ j).getD 0) E∧RP P K n ops AJ pl (k+1) (left ((nth AJ j).getD 0) E) ((d,.slice a 2 2)::L) S' Q):RP P K n ops AJ pl k E L S Q:=by
 obtain⟨Cs,S',h1,h2,h3⟩:=AB5 hl hg h0 h1 CT hu Dd hi hlen hz hs Cb GL hc
 exact YG ho (by rw[AV];rfl) hw Hg AN (fun a ha=>⟨0,by rw[AV];unfold CG;simp only[kindOf,NW ha hx,h1]⟩) (h Cs S' h2 h3).1 (h Cs S' h2 h3).2
end
set_option maxHeartbeats 4000000 in
theorem AOf(S0:St)(l:List (Nat×AF))(B:Nat)(nm:ByteArray)(a:Option Addr)(s0 s1:Sg)(m0 m1 m2 m3 pl:Int)(op dt:Bool)(fr:List (Nat×AF))(s:Sg)(d:Bool)(hF:BW S0)(hO:OV a [s0,s1] fr)(hl:AE S0 [S0] S ([(B,.cells (Gj nm a 1 2 m0 m1 m2 m3 pl op dt) 135 false true [])]++(fr++l)) []):CC Tryz.prog KK 82 [ptrTo B 0,s.v,.bool d] S (fun v S'=>∃NZ,v=Aw []∧OV a [s0,s] NZ∧AE S0 [S0] S' ([(B,.cells (Gj nm a 2 2 m0 m1 m2 m3 pl op d) 135 false true [])]++(NZ++l)) []):=by
 refine ce 22 Tryz.func82 fun _=>?_
 unfold Gj at hl ⊢
 refine zg ?_;refine bL hl fun B4 S4 hl=>?_;refine zg ?_;refine BC (idx:=[0,1,2,3,4,5,6,7,8,9,10,11,12]) rfl AB AB ?_;refine zg ?_
 have hl:AE S0 [S0] S4 ([(B4,.cells s.cells 55 false true []),(B,.cells [.string nm,.slice a 1 2,.int .i64 m0,.int .i64 m1,.int .i64 m2,.int .i64 m3,.int .i64 pl,.bool op,.bool dt] 135 false true [])]++(fr++l)) []:=hl
 refine MX hF hl rfl rfl rfl rfl rfl Tryz.underlying42 rfl (c:=s.cells) AB ?_;intro JH S7 AGV UU hl
 refine AKL (c0:=s0.cells) (c1:=s1.cells++[]) hl hO rfl rfl rfl rfl rfl rfl rfl rfl rfl Tryz.underlying42 Tryz.underlying42 rfl rfl AB (Cj (n:=1) (cap:=1) (new:=s.cells) UU rfl) rfl (show 0<17 by decide) rfl ?_;intro f3 S8 Ej hl;refine⟨zt,?_⟩
 have Ej:OV a [s0,s] f3:=by
  show OW _ _ _ (s0.cells++(s.cells++[])) _ _
  rw[List.append_nil]
  exact Ej
 refine zg ?_
 refine pL hl 1 [.string nm,.slice a 2 2,.int .i64 m0,.int .i64 m1,.int .i64 m2,.int .i64 m3,.int .i64 pl,.bool op,.bool dt] (h:=fun S9 hl=>⟨zt,?_⟩)
 refine zg ?_;refine sL hl 1 [.string nm,.slice a 2 2,.int .i64 m0,.int .i64 m1,.int .i64 m2,.int .i64 m3,.int .i64 pl,.bool op,.bool d] fun GB hl=>?_;refine zg ?_
 exact On rfl ⟨f3,rfl,Ej,hl.tail⟩
theorem AOg(S0:St)(l:List (Nat×AF))(B:Nat)(nm:ByteArray)(a:Option Addr)(n k:Nat)(m0 m1 m2 m3 pl:Int)(op dt:Bool)(x:Int)(hp: -4≤pl∧pl≤12)(hl:AE S0 [S0] S ([(B,.cells (Gj nm a n k m0 m1 m2 m3 pl op dt) 135 false true [])]++l) []):CC Tryz.prog KK 84 [ptrTo B 0,.int .i64 x] S (fun v S'=>∃p2:Int,v= .int .i64 p2∧(-4≤p2∧p2≤12)∧AE S0 [S0] S' ([(B,.cells (Gj nm a n k m0 m1 m2 m3 p2 op dt) 135 false true [])]++l) []):=by
 refine ce 35 Tryz.func84 fun _=>?_
 unfold Gj at hl ⊢
 refine zg ?_;refine BC (idx:=[0,1,2,3,4,5,6,7,8,9,10,11]) rfl AB AB ?_;refine zg ?_
 refine zp hl rfl (YS x 5 AA AA) ?_;rintro v S1 AM rfl hl;refine⟨zt,?_⟩
 have hm:=bj x (n:=5) AA
 generalize Jh x 5=y at *
 refine zg ?_
 refine pL hl 0 [.string nm,.slice a n k,.int .i64 m0,.int .i64 m1,.int .i64 m2,.int .i64 m3,.int .i64 (pl+y-2),.bool op,.bool dt] (h:=fun S2 hl=>⟨zt,?_⟩)
 refine zA ?_;refine AG rfl (Ex (fun Le S'=>Af [(0,ptrTo B 0),(4,.int .i64 0)] Le∧∃p2:Int,(-4≤p2∧p2≤12)∧AE S0 [S0] S' ([(B,.cells [.string nm,.slice a n k,.int .i64 m0,.int .i64 m1,.int .i64 m2,.int .i64 m3,.int .i64 p2,.bool op,.bool dt] 135 false true [])]++l) []) ?_ ?_)
 ·
  refine AG rfl (CR hl 27 (.bool (decide (pl+y-2< -4)||decide (pl+y-2>12))) ?_ rfl ?_)
  ·
   refine zg ?_;refine AZ (d:=21) rfl (fun Bf=>?_) (fun Bf=>?_)
   ·
    refine zg ?_
    exact⟨rfl,bl (by simp[Bf]),sB,hl⟩
   refine zg ?_
   exact⟨rfl,bl (by simp[Bf]),sB,hl⟩
  intro S3 hl
  refine zg ?_
  constructor<;>intro CX
  ·
   refine zg ?_;refine sL hl 0 [.string nm,.slice a n k,.int .i64 m0,.int .i64 m1,.int .i64 m2,.int .i64 m3,.int .i64 4,.bool op,.bool dt] fun S4 hl=>?_;refine zg ?_
   exact⟨rfl,sE,4,AA,hl⟩
  refine Ar rfl ?_
  exact⟨rfl,sE,pl+y-2,by simp at CX;omega,hl⟩
 clear hl;rintro Le S3 ⟨AH,p2,O9,hl⟩;refine AK AH ?_
 refine zg ?_
 exact(y1 rfl ⟨p2,rfl,O9,hl⟩)
def JN(k:Int):Sg:=⟨7,0,0,0,false,0,false,false,0,0,0,0,false,0,0,k,3⟩
def G6(m0 m1 m2 m3:Int)(st:Bool):Sg:=⟨5,0,0,0,false,0,false,false,m0,m1,m2,m3,st,0,0,0,0⟩
def nS(v p:Int):Sg:=⟨1,v,p,0,false,0,false,false,0,0,0,0,false,0,0,0,0⟩
def rS(v:Int):Sg:=⟨2,v,0,0,false,0,false,false,0,0,0,0,false,0,0,0,0⟩
def dS:Sg:=⟨3,0,0,0,false,0,false,false,0,0,0,0,false,0,0,0,0⟩
end Go.Proofs.YtmfphenhpkgidaaGreatDoor
namespace Go.Proofs.YtmfphenhpkgidaaGreatDoor
open Go.Cm Go
set_option maxRecDepth 100000
variable{S:St}
theorem fA{b:Nat}{L:Env}{S:St}{Q:CV}(h:Q .normal L S):QU b Q .normal L S:=h
def GX(s:Sg):Prop:=s=JN 0∨(∃st,s=G6 2 2 2 2 st∨s=G6 2 2 3 2 st∨s=G6 2 2 2 3 st)∨(∃v p,(3≤v∧v≤6)∧(-4≤p∧p≤12)∧s=nS v p)∨(∃v,(3≤v∧v≤6)∧s=rS v)∨s=dS
theorem GX.note{v p:Int}(h:3≤v∧v≤6)(k: -4≤p∧p≤12):GX (nS v p):= .inr (.inr (.inl ⟨v,p,h,k,rfl⟩))
theorem GX.rest{v:Int}(h:3≤v∧v≤6):GX (rS v):= .inr (.inr (.inr (.inl ⟨v,h,rfl⟩)))
def Mk(S0 S:St)(B:Nat)(l:List (Nat×AF))(nm:ByteArray)(m0 m1 m2 m3:Int)(D:List Sg):Prop:= ∃a fr pl dt,OV a D fr∧(-4≤pl∧pl≤12)∧AE S0 [S0] S ([(B,.cells (Gj nm a D.length D.length m0 m1 m2 m3 pl false dt) 135 false true [])]++(fr++l)) []
theorem KY{S0:St}{l:List (Nat×AF)}{B:Nat}{nm:ByteArray}{m0 m1 m2 m3:Int}{D:List Sg}(s:Sg)(d:Bool)(h:Mk S0 S B l nm m0 m1 m2 m3 D)(hF:BW S0)(hD:D.length≤1000):CC Tryz.prog KK 82 [ptrTo B 0,s.v,.bool d] S fun v S'=>v=Aw []∧Mk S0 S' B l nm m0 m1 m2 m3 (D++[s]):=by
 obtain⟨a,fr,pl,dt,hO,hp,hl⟩:=h
 refine C8 (AOe S0 l B nm a D m0 m1 m2 m3 pl false dt fr s d hF hD hO hl) ?_
 rintro v S' ⟨a2,NZ,h1,h2,h3⟩
 exact⟨h1,a2,NZ,pl,d,h2,hp,h3⟩
theorem Yb{S0:St}{l:List (Nat×AF)}{B:Nat}{nm:ByteArray}{m0 m1 m2 m3:Int}{D:List Sg}(x:Int)(h:Mk S0 S B l nm m0 m1 m2 m3 D):CC Tryz.prog KK 84 [ptrTo B 0,.int .i64 x] S fun v S'=>∃p:Int,v= .int .i64 p∧(-4≤p∧p≤12)∧Mk S0 S' B l nm m0 m1 m2 m3 D:=by
 obtain⟨a,fr,pl,dt,hO,hp,hl⟩:=h
 refine C8 (AOg S0 (fr++l) B nm a D.length D.length m0 m1 m2 m3 pl false dt x hp hl) ?_
 rintro v S' ⟨p2,h1,h2,h3⟩
 exact⟨p2,h1,h2,a,fr,p2,dt,hO,h2,h3⟩
theorem ANY(S0:St)(l:List (Nat×AF))(B:Nat)(nm:ByteArray)(m0 m1 m2 m3:Int)(D:List Sg)(w n:Int)(wh:Bool)(hw:3≤w∧w≤4)(hn:0≤n∧n≤3000000)(hF:BW S0)(hD:D.length≤900)(h:Mk S0 S B l nm m0 m1 m2 m3 D):CC Tryz.prog KK 107 [ptrTo B 0,.int .i64 w,.int .i64 n,.bool wh] S (fun v S'=>∃R,v=Aw []∧R.length≤2∧(∀s,s∈R→GX s)∧Mk S0 S' B l nm m0 m1 m2 m3 (D++R)):=by
 refine ce 49 Tryz.func107 fun _=>?_
 obtain⟨a,fr,pl,dt,hO,hp,hl⟩:=h
 have r5:=IV (a:=n) (b:=5) AA hn.1
 have q5:=Hn (a:=n) (b:=5) AA hn.1
 refine Az rfl ?_;refine AG rfl (CR hl 25 (.bool (wh||decide (n.tmod 5<3))) ?_ rfl ?_)
 ·
  refine zg ?_;refine AZ (d:=27) rfl (fun CX=>?_) (fun CX=>?_)
  ·
   refine zg ?_
   exact⟨rfl,bl (by simp[CX]),sB,hl⟩
  refine zg ?_
  exact⟨rfl,bl (by simp[CX]),sB,hl⟩
 intro S1 hl
 refine zg ?_
 constructor<;>intro C'
 ·
  refine zg ?_
  refine D5 rfl rfl rfl rfl rfl rfl rfl (C8 (Yb n ⟨a,fr,pl,dt,hO,hp,hl⟩) ?_);rintro v S2 ⟨p,rfl,Np,h⟩
  refine rr rfl (A9 rfl rfl (v:=(nS (w+1) p).v) (by rfl)) ?_
  refine D5 rfl rfl rfl rfl rfl rfl rfl (C8 (KY (nS (w+1) p) false h hF AA) ?_);rintro v S3 ⟨rfl,h⟩
  refine zg ?_
  exact fA (On rfl ⟨[nS (w+1) p],rfl,by simp,fun s hs=>by rw[List.mem_singleton.1 hs];exact .note AA Np,h⟩)
 refine zg ?_
 constructor<;>intro DO
 ·
  refine zg ?_;refine rr rfl (A9 rfl rfl (v:=(rS (w+1)).v) (by rfl)) ?_
  refine D5 rfl rfl rfl rfl rfl rfl rfl (C8 (KY (rS (w+1)) false ⟨a,fr,pl,dt,hO,hp,hl⟩ hF AA) ?_);rintro v S3 ⟨rfl,h⟩
  refine zg ?_
  exact fA (On rfl ⟨[rS (w+1)],rfl,by simp,fun s hs=>by rw[List.mem_singleton.1 hs];exact .rest AA,h⟩)
 refine zg ?_
 refine D5 rfl rfl rfl rfl rfl rfl rfl (C8 (Yb n ⟨a,fr,pl,dt,hO,hp,hl⟩) ?_);rintro v S2 ⟨p,rfl,Np,h⟩
 refine rr rfl (A9 rfl rfl (v:=(nS (w+2) p).v) (by rfl)) ?_
 refine D5 rfl rfl rfl rfl rfl rfl rfl (C8 (KY (nS (w+2) p) false h hF AA) ?_);rintro v S3 ⟨rfl,h⟩
 refine zg ?_
 refine D5 rfl rfl rfl rfl rfl rfl rfl (C8 (Yb (n.tdiv 5) h) ?_);rintro v S4 ⟨p2,rfl,AGp,h⟩
 refine rr rfl (A9 rfl rfl (v:=(nS (w+2) p2).v) (by rfl)) ?_
 refine D5 rfl rfl rfl rfl rfl rfl rfl (C8 (KY (nS (w+2) p2) false h hF (by rw[DS];simp;omega)) ?_);rintro v S5 ⟨rfl,h⟩
 refine zg ?_
 rw[List.append_assoc]at h
 exact fA (On rfl ⟨[nS (w+2) p]++[nS (w+2) p2],rfl,by simp,fun s hs=>(List.mem_append.1 hs).elim (fun hs=>by rw[List.mem_singleton.1 hs];exact .note AA Np) (fun hs=>by rw[List.mem_singleton.1 hs];exact .note AA AGp),h⟩)
theorem AAk(S0:St)(l:List (Nat×AF))(B:Nat)(nm:ByteArray)(m0 m1 m2 m3:Int)(D:List Sg)(w n:Int)(hw:3≤w∧w≤4)(hn:0≤n∧n≤1100000)(hF:BW S0)(hD:D.length≤800)(h:Mk S0 S B l nm m0 m1 m2 m3 D):CC Tryz.prog KK 83 [ptrTo B 0,.int .i64 w,.int .i64 n] S (fun v S'=>∃R,v=Aw []∧R.length≤11∧(∀s,s∈R→GX s)∧Mk S0 S' B l nm m0 m1 m2 m3 (D++R)):=by
 refine ce 43 Tryz.func83 fun _=>?_
 have r7:=IV (a:=n) (b:=7) AA hn.1
 have q7:=Hn (a:=n) (b:=7) AA hn.1
 have r6:=IV (a:=n.tdiv 7) (b:=6) AA q7.1
 have q42:=Hn (a:=n) (b:=42) AA hn.1
 refine AG rfl (Ex (fun Le S'=>Af [(0,ptrTo B 0),(1,.int .i64 w),(2,.int .i64 n)] Le∧∃s,GX s∧Mk S0 S' B l nm m0 m1 m2 m3 (D++[s])) ?_ ?_)
 ·
  refine zg ?_
  constructor<;>intro Bs
  ·
   refine zg ?_;refine rr rfl (A9 rfl rfl (v:=(rS w).v) (by rfl)) ?_
   refine D5 rfl rfl rfl rfl rfl rfl rfl (C8 (KY (rS w) false h hF AA) ?_);rintro v S3 ⟨rfl,h⟩
   refine zg ?_
   exact⟨rfl,sE,_,.rest AA,h⟩
  refine zg ?_
  refine D5 rfl rfl rfl rfl rfl rfl rfl (C8 (Yb n h) ?_);rintro v S2 ⟨p,rfl,Np,h⟩
  refine rr rfl (A9 rfl rfl (v:=(nS w p).v) (by rfl)) ?_
  refine D5 rfl rfl rfl rfl rfl rfl rfl (C8 (KY (nS w p) false h hF AA) ?_);rintro v S3 ⟨rfl,h⟩
  refine zg ?_
  exact⟨rfl,sE,_,.note AA Np,h⟩
 clear h;rintro Le S1 ⟨AH,s0,UX,h⟩;refine AK AH ?_
 obtain⟨my,aP⟩:∃my,my=(n.tdiv 7).tmod 6:=⟨_,rfl⟩
 iterate 2 refine zS ?_
 rw[←aP]
 refine Az rfl ?_;refine AK (L':=[(7,.int .i64 0),(6,.int .i64 my),(0,ptrTo B 0),(1,.int .i64 w),(2,.int .i64 n)]) sE ?_
 refine A2 rfl (fun m Le S'=>∃(i:Nat) (R:List Sg),(i:Int)≤my∧m=my.toNat-i∧R.length≤1+2*i∧(∀s,s∈R→GX s)∧Af [(7,.int .i64 (i:Int)),(6,.int .i64 my),(0,ptrTo B 0),(1,.int .i64 w),(2,.int .i64 n)] Le∧Mk S0 S' B l nm m0 m1 m2 m3 (D++R)) ?_ (m:=my.toNat) ⟨0,[s0],AA,AA,by simp,fun s hs=>by rw[List.mem_singleton.1 hs];exact UX,sE,h⟩
 clear h;rintro m Le S' ⟨i,R,hi,rfl,hR,MD,AH,h⟩;refine AK AH ?_
 refine zg ?_
 constructor<;>intro CX
 ·
  have AN:(i:Int)<my:=I6 CX
  have uc:=GO (a:=(i:Int)) (b:=(i:Int)) (m:=5) (n:=5) AA AA
  have uc:=uc AA AA
  obtain⟨ii,uZ⟩:∃ii,ii=(i:Int)*i:=⟨_,rfl⟩
  refine zg ?_
  refine D5 rfl rfl rfl rfl rfl rfl rfl (C8 (ANY S0 l B nm m0 m1 m2 m3 (D++R) w (n.tdiv 42+(i:Int)*i) (decide ((i:Int)+1=my)) hw AA hF (by rw[DS];omega) h) ?_);rintro v S2 ⟨R2,rfl,hR2,AGC,h⟩
  refine zg ?_
  rw[List.append_assoc]at h
  exact⟨my.toNat-(i+1),AA,i+1,R++R2,AA,rfl,by rw[DS];omega,fun s hs=>(List.mem_append.1 hs).elim (MD s) (AGC s),sE,h⟩
 refine zg ?_
 exact dn (zQ (rU AB (On rfl ⟨R,rfl,AA,MD,h⟩)))
end Go.Proofs.YtmfphenhpkgidaaGreatDoor
namespace Go.Proofs.YtmfphenhpkgidaaGreatDoor
open Go.Cm Go
set_option maxRecDepth 100000
variable{S:St}
def BB:ByteArray:=⟨#[97]⟩
theorem AE2{b:Nat}(h:DW S b 5 [.int .u8 97]):L4 Tryz.prog S 78 9 (.slice (some ⟨b,0,none⟩) 1 1)=some (.string BB,S):=by
 have e:EN S 1 1 (.slice (some ⟨b,0,none⟩) 1 1)=some [.int .u8 97]:=Cj (n:=1) (cap:=1) (new:=[.int .u8 97]) h rfl
 have e2:Tryz.prog.underlying 5=some (.int .u8):=by kernel_rfl
 have e3:Tryz.prog.underlying 9=some .string:=by kernel_rfl
 unfold L4
 rw[Tryz.underlying78,e3]
 simp only[e,e2]
 rfl
theorem AOd(hF:BW S):CC Tryz.prog KK 81 [.int .i64 0] S (fun v S'=>∃B,v=ptrTo B 0∧Mk S S' B [] BB 2 2 2 2 [JN 0,G6 2 2 2 2 true]):=by
 refine ce 41 Tryz.func81 fun hl=>?_;refine zg ?_
 refine zc hl rfl ANX ?_;rintro v S1 AM rfl hl
 refine rr rfl (A9 rfl rfl (v:=AX (Gj ⟨#[]⟩ none 0 0 2 2 2 2 4 false false)) (by rfl)) ?_;refine bL hl fun B7 S7 hl=>?_;refine zg ?_
 rw[show(Int.tdiv 0 16:Int)=0 from rfl]
 refine zg ?_
 rw[show(Int.tmod 0 20:Int)=0 from rfl]
 refine zg ?_;refine Rz rfl rfl rfl rfl rfl (v:= .int .u8 97) (S':=S7) rfl rfl ?_;refine dL hl [.int .u8 97] Tryz.underlying78 fun Hw S8 vE hl=>?_;refine Rz rfl rfl rfl rfl rfl (v:= .string BB) (S':=S8) rfl (AE2 vE) ?_;refine zg ?_;refine sL hl 0 (Gj BB none 0 0 2 2 2 2 4 false false) fun S9 hl=>?_;refine zg ?_;refine dL hl [.int .i64 0,.int .i64 4,.int .i64 3] Tryz.underlying38 fun B20 GB vF hl=>?_;refine zg ?_
 rw[show(Int.tdiv 0 320:Int)=0 from rfl]
 refine zg ?_
 rw[show(Int.tmod 0 3:Int)=0 from rfl]
 have hl:=hl.mark
 obtain⟨b1,o1,BF,ha,_,AQ,Aa⟩:=(MR (n:=3) (C:=[0,4,3]) vF rfl).elem (k:=0) (x:=0) rfl
 refine zg ?_;refine rr rfl (A9 rfl rfl (v:=AX [.int .i64 0,.int .i64 3]) (by rfl)) ?_;refine rr rfl (A9 rfl rfl (v:=(JN 0).v) (by rfl)) ?_
 have hl:AE S [S] GB [(B7,.cells (Gj BB none 0 0 2 2 2 2 4 false false) 135 false true [])] []:=⟨hl.AD,hl.nd,hl.at_,fun T ht=>hl.rk T (BQ ht),hl.gr⟩
 have h:Mk S GB B7 [] BB 2 2 2 2 []:=⟨none,[],4,false,.inl ⟨rfl,rfl,rfl,rfl⟩,AA,hl⟩
 clear hl ha AQ Aa vF vE
 refine D5 rfl rfl rfl rfl rfl rfl rfl (C8 (KY (JN 0) false h hF (by simp)) ?_);rintro v Km ⟨rfl,h⟩
 obtain⟨a,fr,pl,dt,hO,hp,hl⟩:=h
 unfold Gj at hl
 refine zg ?_
 rw[show(Int.tdiv 0 960:Int)=0 from rfl]
 refine zg ?_
 rw[show(Int.tmod 0 3:Int)=0 from rfl]
 refine zg ?_;refine rr rfl (A9 rfl rfl (v:=(G6 2 2 2 2 true).v) (by rfl)) ?_
 have h:Mk S Km B7 [] BB 2 2 2 2 [JN 0]:=⟨a,fr,pl,dt,hO,hp,hl⟩
 refine D5 rfl rfl rfl rfl rfl rfl rfl (C8 (KY (G6 2 2 2 2 true) false h hF (by simp)) ?_);rintro v Ko ⟨rfl,h⟩
 refine zg ?_
 exact(y1 rfl ⟨B7,rfl,h⟩)
end Go.Proofs.YtmfphenhpkgidaaGreatDoor
namespace Go.Proofs.YtmfphenhpkgidaaGreatDoor
open Go.Cm Go
set_option maxRecDepth 100000
variable{S:St}
def JD(x:Int×Int):List Value:=[.int .i64 2,.int .i64 2,.int .i64 x.1,.int .i64 x.2]
def Tt(t p:Int):Prop:=(t=2∧p=2)∨(t=3∧p=2)∨(t=2∧p=3)
theorem Tt.of{k:Nat}{x:Int×Int}(h:nth [((2:Int),(2:Int)),(3,2),(2,3)] k=some x):Tt x.1 x.2:=by
 have:=BV h
 simp at this
 rcases this with rfl|rfl|rfl
 ·exact .inl ⟨rfl,rfl⟩
 ·exact .inr (.inl ⟨rfl,rfl⟩)
 exact .inr (.inr ⟨rfl,rfl⟩)
theorem GX.xV{t p:Int}(h:Tt t p)(st:Bool):GX (G6 2 2 t p st):=by
 refine .inr (.inl ⟨st,?_⟩)
 rcases h with ⟨rfl,rfl⟩|⟨rfl,rfl⟩|⟨rfl,rfl⟩
 ·exact .inl rfl
 ·exact .inr (.inl rfl)
 exact .inr (.inr rfl)
theorem A0.one{α:Type}{e:TypeId}{z:Nat}{f:α→List Value}{S:St}{b:Nat}{x y:α}(h:A0 e z f S (.slice (some ⟨b,0,none⟩) 2 2) [x,y]):A0 e z f S (.slice (some ⟨b,0,none⟩) 1 2) [x]:=by
 rcases h with ⟨h,_⟩|⟨b1,o,cap,cs,h1,h0,h2,h3⟩
 ·cases h
 cases h1
 refine .inr ⟨b,0,2,cs,rfl,Nat.le_succ 1,h2,fun k u hk=>h3 k u ?_⟩
 cases k with
 |zero=>exact hk
 |succ k=>cases hk
theorem ANO{S:St}{b:Nat}{x y:Sg}(h:CW S (.slice (some ⟨b,0,none⟩) 2 2) [x,y]):Fq Tryz.prog 42 (.slice (some ⟨b,0,none⟩) 2 2) none (some (.int .i64 1)) none S=some (.slice (some ⟨b,0,none⟩) 1 2):=by
 obtain⟨a2,c2,h1,_⟩:=h.upto (k:=1) (RK.refl S) Tryz.underlying42 AB (by simp)
 rcases h with ⟨h,_⟩|⟨b1,o,cap,cs,e1,h0,h2,h3⟩
 ·cases h
 cases e1
 have h1:Fq Tryz.prog 42 (.slice (some ⟨b,0,none⟩) 2 2) none (some (.int .i64 1)) none S=some (.slice a2 1 c2):=h1
 rw[h1]
 unfold Fq at h1
 rw[Tryz.underlying42]at h1
 have e2:A5 Tryz.prog 55=some 17:=by kernel_rfl
 have e3:H0 2 2 none (some (.int .i64 1)) none=some (0,1,2):=by rfl
 simp only[e2,e3]at h1
 cases hr:I8 Tryz.prog S b 17 with
 |true =>
  rw[hr]at h1
  simp only[cond_true,Option.isSome_none,Bool.false_and,cond_false,Option.some.injEq,Value.slice.injEq]at h1
  obtain⟨q1,q2,q3⟩:=h1
  rw[←q1,←q3]
 |false =>
  rw[hr]at h1
  cases h1
set_option maxHeartbeats 4000000 in
theorem AOS(a:Option Addr)(cap:Nat)(L:List Int)(hL:L.length≤100)(hF:BW S)(hv:CZ S (.slice a L.length cap) L):CC Tryz.prog KK 57 [.slice a L.length cap] S (fun v S'=>AL S S'∧∃ap cp D,v=AX [.string BB,.slice ap D.length cp]∧CW S' (.slice ap D.length cp) D∧(∀s,s∈D→GX s)∧D.length≤50):=by
 refine ce 121 Tryz.func57 fun hl=>?_;refine zg ?_;refine aL hl ([.string ⟨#[]⟩,.slice none 0 0]) fun B2 S2 hl=>?_;refine zg ?_
 refine D5 rfl rfl rfl rfl rfl rfl rfl (C8 (AOd (hl.AD.3 hF)) ?_);rintro v S3 ⟨B,rfl,a1,fr,pl,dt,hO,hp,LA⟩
 have hl:=hl.join LA
 clear LA
 have hl:AE S [S] S3 ([(B,.cells (Gj BB a1 2 2 2 2 2 2 pl false dt) 135 false true [])]++(fr++[(B2,.cells [.string ⟨#[]⟩,.slice none 0 0] 44 false true [])])) []:=hl.perm (by
  refine(List.perm_append_comm).trans ?_
  rw[List.append_nil,List.append_assoc]
  exact List.Perm.refl _)
 obtain⟨b1,rfl⟩:∃b,a1=some ⟨b,0,none⟩:=by
  rcases hO with ⟨_,_,h,_⟩|⟨b,dd,h,_⟩
  ·cases h
  cases h;exact⟨b,rfl⟩
 have W5:CW S3 (.slice (some ⟨b1,0,none⟩) 2 2) [JN 0,G6 2 2 2 2 true]:=OW.ls (C:=[JN 0,G6 2 2 2 2 true]) (fun _=>rfl) hO hl
 unfold Gj at hl
 refine zg ?_;refine rr rfl (cT rfl rfl rfl rfl rfl (v:= .slice (some ⟨b1,0,none⟩) 1 2) (ANO W5)) ?_;refine zg ?_;refine sL hl 0 [.string BB,.slice (some ⟨b1,0,none⟩) 1 2,.int .i64 2,.int .i64 2,.int .i64 2,.int .i64 2,.int .i64 pl,.bool false,.bool dt] fun S4 hl=>?_;refine zA ?_;refine AG rfl ?_;refine zS ?_;refine Az rfl ?_;refine AK (L':=[(4,.int .i64 0),(3,ptrTo B 0),(2,ptrTo B2 0),(0,.slice a L.length cap)]) sE ?_
 refine A2 rfl (fun m Le S'=>∃i:Nat,i≤L.length∧m=L.length-i∧Af [(4,.int .i64 (i:Int)),(3,ptrTo B 0),(2,ptrTo B2 0),(0,.slice a L.length cap)] Le∧((i=0∧∃fr pl dt,OV (some ⟨b1,0,none⟩) [JN 0,G6 2 2 2 2 true] fr∧(-4≤pl∧pl≤12)∧AE S [S] S' ([(B,.cells (Gj BB (some ⟨b1,0,none⟩) 1 2 2 2 2 2 pl false dt) 135 false true [])]++(fr++[(B2,.cells [.string ⟨#[]⟩,.slice none 0 0] 44 false true [])])) [])∨∃D t p,D.length≤44∧(∀s,s∈D→GX s)∧Tt t p∧Mk S S' B [(B2,.cells [.string ⟨#[]⟩,.slice none 0 0] 44 false true [])] BB 2 2 t p D)) ?_ (m:=L.length) ⟨0,AA,AA,sE,.inl ⟨rfl,fr,pl,dt,hO,hp,hl⟩⟩
 clear hl hO hp;rintro m Le S' ⟨i,hi,rfl,AH,hJ⟩;refine AK AH ?_
 rcases hJ with ⟨rfl,fr,pl,dt,hO,hp,hl⟩|⟨D,t,p,hD,hR,PE,h⟩
 ·
  unfold Gj at hl
  refine AG rfl ?_;refine AG rfl (CR hl 29 (.bool (decide (0<(L.length:Int)))) ?_ rfl ?_)
  ·
   refine zg ?_;refine AZ (d:=21) rfl (fun Bf=>?_) (fun Bf=>?_)
   ·
    refine zg ?_
    exact⟨rfl,bl (by simp at Bf;simp[Bf]),sB,hl⟩
   refine zg ?_
   exact⟨rfl,bl (by simp at Bf;simp[Bf]),sB,hl⟩
  intro S5 hl
  refine zg ?_
  constructor<;>intro DA
  ·
   have AN:0<L.length:=dT DA
   obtain⟨x0,IG⟩:=Ad AN
   obtain⟨b3,o3,H3,ha,_,AQ,Aa⟩:=hv.elem IG
   refine Ar rfl ?_;refine zg ?_
   refine zc hl rfl (YS x0 1048576 AA AA) ?_;rintro v S6 AM rfl hl
   have hm:=bj x0 (n:=1048576) AA
   generalize Jh x0 1048576=n at *
   have r3:=IV (a:=n) (b:=3) AA hm.1
   have q3:=Hn (a:=n) (b:=3) AA hm.1
   have r34:=IV (a:=n.tdiv 3) (b:=4) AA q3.1
   obtain⟨k,hk⟩:∃k:Nat,n.tmod 3=(k:Int):=⟨(n.tmod 3).toNat,AA⟩
   obtain⟨⟨t,p⟩,Aa⟩:=Ad (l:=[((2:Int),(2:Int)),(3,2),(2,3)]) (i:=k) (by simp;omega)
   have PE:=Tt.of Aa
   clear ha AQ
   refine zg ?_;refine rr rfl (A9 rfl rfl (v:=AX (JD (2,2))) (by rfl)) ?_;refine rr rfl (A9 rfl rfl (v:=AX (JD (3,2))) (by rfl)) ?_;refine rr rfl (A9 rfl rfl (v:=AX (JD (2,3))) (by rfl)) ?_;refine dL hl (JD (2,2)++(JD (3,2)++JD (2,3))) Tryz.underlying136 fun QT S7 XC hl=>?_
   have GJ:=hl
   have hl:=hl.mark
   obtain⟨b4,o4,sJ,ha,_,AQ,jS⟩:=(show A0 51 4 JD S7 (.slice (some ⟨QT,0,none⟩) 3 3) [((2:Int),(2:Int)),(3,2),(2,3)]from A0.row (fun _=>rfl) XC rfl).elem Aa
   refine zg ?_
   rw[hk]
   refine zg ?_;refine sL hl 0 [.string BB,.slice (some ⟨b1,0,none⟩) 1 2,.int .i64 2,.int .i64 2,.int .i64 t,.int .i64 p,.int .i64 pl,.bool false,.bool dt] fun S8 hl=>?_
   clear ha AQ jS
   have hl:AE S [S] S8 ([(B,.cells [.string BB,.slice (some ⟨b1,0,none⟩) 1 2,.int .i64 2,.int .i64 2,.int .i64 t,.int .i64 p,.int .i64 pl,.bool false,.bool dt] 135 false true [])]++(fr++[(B2,.cells [.string ⟨#[]⟩,.slice none 0 0] 44 false true [])])) []:=hl.marks (fun T hT=>by simp at hT;simp[hT])
   refine zg ?_;refine rr rfl (CU rfl rfl (lN (z:=4) (hl.get 0 rfl) rfl)) ?_;refine zg ?_;refine rr rfl (A9 rfl rfl (v:=(G6 2 2 t p ((n.tdiv 3).tmod 4==0)).v) (by rfl)) ?_
   refine D5 rfl rfl rfl rfl rfl rfl rfl (C8 (AOf S [(B2,.cells [.string ⟨#[]⟩,.slice none 0 0] 44 false true [])] B BB (some ⟨b1,0,none⟩) (JN 0) (G6 2 2 2 2 true) 2 2 t p pl false dt fr (G6 2 2 t p ((n.tdiv 3).tmod 4==0)) false hF hO hl) ?_);rintro v S9 ⟨NZ,rfl,hO,hl⟩
   have h:Mk S S9 B [(B2,.cells [.string ⟨#[]⟩,.slice none 0 0] 44 false true [])] BB 2 2 t p [JN 0,G6 2 2 t p ((n.tdiv 3).tmod 4==0)]:=⟨_,NZ,pl,false,hO,hp,hl⟩
   refine zg ?_
   exact⟨L.length-(0+1),AA,0+1,AA,AA,sE,.inr ⟨_,t,p,by simp,fun s hs=>by
    rcases List.mem_cons.1 hs with rfl|hs
    ·exact .inl rfl
    rw[List.mem_singleton.1 hs];exact .xV PE _,PE,h⟩⟩
  refine zg ?_
  have hl:AE S [S] S5 ([(B2,.cells [.string ⟨#[]⟩,.slice none 0 0] 44 false true []),(B,.cells [.string BB,.slice (some ⟨b1,0,none⟩) 1 2,.int .i64 2,.int .i64 2,.int .i64 2,.int .i64 2,.int .i64 pl,.bool false,.bool dt] 135 false true [])]++(fr++[])) []:=hl.perm (by rw[List.append_nil,←List.append_assoc];exact List.perm_append_comm)
  refine sL hl 0 [.string BB,.slice (some ⟨b1,0,none⟩) 1 2] fun S6 hl=>?_
  have hl:AE S [S] S6 ([(B2,.cells [.string BB,.slice (some ⟨b1,0,none⟩) 1 2] 44 false true []),(B,.cells [.string BB,.slice (some ⟨b1,0,none⟩) 1 2,.int .i64 2,.int .i64 2,.int .i64 2,.int .i64 2,.int .i64 pl,.bool false,.bool dt] 135 false true [])]++(fr++[])) []:=hl
  have W5:CW S6 (.slice (some ⟨b1,0,none⟩) 2 2) [JN 0,G6 2 2 2 2 true]:=OW.ls (C:=[JN 0,G6 2 2 2 2 true]) (fun _=>rfl) hO hl
  refine zg ?_
  exact BA (Bm rfl (lN (z:=2) (hl.get 0 rfl) rfl) rfl) ⟨hl.AD,some ⟨b1,0,none⟩,2,[JN 0],rfl,W5.one,fun s hs=>by rw[List.mem_singleton.1 hs];exact .inl rfl,by simp⟩
 obtain⟨a1,fr,pl,dt,hO,hp,hl⟩:=h
 unfold Gj at hl
 refine AG rfl ?_;refine AG rfl (CR hl 29 (.bool (decide ((i:Int)<(L.length:Int))&&decide ((D.length:Int)<34))) ?_ rfl ?_)
 ·
  refine zg ?_;refine AZ (d:=21) rfl (fun Bf=>?_) (fun Bf=>?_)
  ·
   refine zg ?_
   exact⟨rfl,bl (by rw[Bf];simp),sB,hl⟩
  refine zg ?_
  exact⟨rfl,bl (by rw[Bf];simp),sB,hl⟩
 intro S5 hl
 refine zg ?_
 constructor<;>intro DA
 ·
  have AN:i<L.length:=by simp at DA;omega
  have ATB:D.length<34:=by simp at DA;omega
  obtain⟨x0,IG⟩:=Ad AN
  obtain⟨b3,o3,H3,ha,_,AQ,Aa⟩:=hv.elem IG
  refine Ar rfl ?_;refine zg ?_
  refine zc hl rfl (YS x0 1048576 AA AA) ?_;rintro v S6 AM rfl hl
  have hm:=bj x0 (n:=1048576) AA
  generalize Jh x0 1048576=n at *
  have r3:=IV (a:=n) (b:=3) AA hm.1
  have q3:=Hn (a:=n) (b:=3) AA hm.1
  have r34:=IV (a:=n.tdiv 3) (b:=4) AA q3.1
  have q6:=Hn (a:=n) (b:=6) AA hm.1
  have r6:=IV (a:=n) (b:=6) AA hm.1
  have r64:=IV (a:=n.tdiv 6) (b:=4) AA q6.1
  clear ha AQ Aa
  refine zg ?_
  constructor<;>intro EB
  ·
   obtain⟨k,hk⟩:∃k:Nat,n.tmod 3=(k:Int):=⟨(n.tmod 3).toNat,AA⟩
   obtain⟨⟨t2,p2⟩,Aa⟩:=Ad (l:=[((2:Int),(2:Int)),(3,2),(2,3)]) (i:=k) (by simp;omega)
   have vR:=Tt.of Aa
   refine zg ?_;refine rr rfl (A9 rfl rfl (v:=AX (JD (2,2))) (by rfl)) ?_;refine rr rfl (A9 rfl rfl (v:=AX (JD (3,2))) (by rfl)) ?_;refine rr rfl (A9 rfl rfl (v:=AX (JD (2,3))) (by rfl)) ?_;refine dL hl (JD (2,2)++(JD (3,2)++JD (2,3))) Tryz.underlying136 fun QT S7 XC hl=>?_
   have hl:=hl.mark
   obtain⟨b4,o4,sJ,ha,_,AQ,jS⟩:=(show A0 51 4 JD S7 (.slice (some ⟨QT,0,none⟩) 3 3) [((2:Int),(2:Int)),(3,2),(2,3)]from A0.row (fun _=>rfl) XC rfl).elem Aa
   refine zg ?_
   rw[hk]
   refine zg ?_;refine sL hl 0 [.string BB,.slice a1 D.length D.length,.int .i64 2,.int .i64 2,.int .i64 t2,.int .i64 p2,.int .i64 pl,.bool false,.bool dt] fun S8 hl=>?_
   clear ha AQ jS
   have hl:AE S [S] S8 ([(B,.cells [.string BB,.slice a1 D.length D.length,.int .i64 2,.int .i64 2,.int .i64 t2,.int .i64 p2,.int .i64 pl,.bool false,.bool dt] 135 false true [])]++(fr++[(B2,.cells [.string ⟨#[]⟩,.slice none 0 0] 44 false true [])])) []:=hl.marks (fun T hT=>by simp at hT;simp[hT])
   refine zg ?_;refine rr rfl (CU rfl rfl (lN (z:=4) (hl.get 0 rfl) rfl)) ?_;refine zg ?_;refine rr rfl (A9 rfl rfl (v:=(G6 2 2 t2 p2 ((n.tdiv 3).tmod 4==0)).v) (by rfl)) ?_
   have h:Mk S S8 B [(B2,.cells [.string ⟨#[]⟩,.slice none 0 0] 44 false true [])] BB 2 2 t2 p2 D:=⟨_,fr,pl,dt,hO,hp,hl⟩
   refine D5 rfl rfl rfl rfl rfl rfl rfl (C8 (KY (G6 2 2 t2 p2 ((n.tdiv 3).tmod 4==0)) false h hF AA) ?_);rintro v S9 ⟨rfl,h⟩
   refine zg ?_
   exact⟨L.length-(i+1),AA,i+1,AA,rfl,sE,.inr ⟨_,t2,p2,by rw[DS];simp;omega,fun s hs=>(List.mem_append.1 hs).elim (hR s) (fun hs=>by rw[List.mem_singleton.1 hs];exact .xV vR _),vR,h⟩⟩
  refine Ar rfl ?_;refine zg ?_
  constructor<;>intro O0
  ·
   refine zg ?_
   refine D5 rfl rfl rfl rfl rfl rfl rfl (C8 (AAk S [(B2,.cells [.string ⟨#[]⟩,.slice none 0 0] 44 false true [])] B BB 2 2 t p D 3 n AA AA hF AA ⟨_,fr,pl,dt,hO,hp,hl⟩) ?_);rintro v S9 ⟨R,rfl,uG,MD,h⟩
   refine zg ?_
   exact⟨L.length-(i+1),AA,i+1,AA,rfl,sE,.inr ⟨_,t,p,by rw[DS];omega,fun s hs=>(List.mem_append.1 hs).elim (hR s) (MD s),PE,h⟩⟩
  refine zg ?_
  constructor<;>intro Z5
  ·
   refine zg ?_
   refine D5 rfl rfl rfl rfl rfl rfl rfl (C8 (AAk S [(B2,.cells [.string ⟨#[]⟩,.slice none 0 0] 44 false true [])] B BB 2 2 t p D 4 n AA AA hF AA ⟨_,fr,pl,dt,hO,hp,hl⟩) ?_);rintro v S9 ⟨R,rfl,uG,MD,h⟩
   refine zg ?_
   exact⟨L.length-(i+1),AA,i+1,AA,rfl,sE,.inr ⟨_,t,p,by rw[DS];omega,fun s hs=>(List.mem_append.1 hs).elim (hR s) (MD s),PE,h⟩⟩
  refine zg ?_
  constructor<;>intro h93
  ·
   refine zg ?_;refine rr rfl (A9 rfl rfl (v:=(rS (3+(n.tdiv 6).tmod 4)).v) (by rfl)) ?_
   refine D5 rfl rfl rfl rfl rfl rfl rfl (C8 (KY (rS (3+(n.tdiv 6).tmod 4)) false ⟨_,fr,pl,dt,hO,hp,hl⟩ hF AA) ?_);rintro v S9 ⟨rfl,h⟩
   refine zg ?_
   exact⟨L.length-(i+1),AA,i+1,AA,rfl,sE,.inr ⟨_,t,p,by rw[DS];simp;omega,fun s hs=>(List.mem_append.1 hs).elim (hR s) (fun hs=>by rw[List.mem_singleton.1 hs];exact .rest AA),PE,h⟩⟩
  refine AG rfl (CR hl 104 (.bool (n.tmod 6==1&&dt)) ?_ rfl ?_)
  ·
   refine zg ?_;refine AZ (d:=108) rfl (fun gk=>?_) (fun gk=>?_)
   ·
    refine zg ?_
    exact⟨rfl,bl (by rw[gk];simp),sB,hl⟩
   refine zg ?_
   exact⟨rfl,bl (by rw[gk];simp),sB,hl⟩
  intro S7 hl
  refine zg ?_
  constructor<;>intro AS'
  ·
   refine zg ?_;refine rr rfl (A9 rfl rfl (v:=dS.v) (by rfl)) ?_
   refine D5 rfl rfl rfl rfl rfl rfl rfl (C8 (KY dS false ⟨_,fr,pl,dt,hO,hp,hl⟩ hF AA) ?_);rintro v S9 ⟨rfl,h⟩
   refine zg ?_
   exact⟨L.length-(i+1),AA,i+1,AA,rfl,sE,.inr ⟨_,t,p,by rw[DS];simp;omega,fun s hs=>(List.mem_append.1 hs).elim (hR s) (fun hs=>by rw[List.mem_singleton.1 hs];exact .inr (.inr (.inr (.inr rfl)))),PE,h⟩⟩
  refine zg ?_
  refine D5 rfl rfl rfl rfl rfl rfl rfl (C8 (Yb (n.tdiv 24) ⟨_,fr,pl,dt,hO,hp,hl⟩) ?_);rintro v S8 ⟨q,rfl,hq,h⟩
  refine rr rfl (A9 rfl rfl (v:=(nS (3+(n.tdiv 6).tmod 4) q).v) (by rfl)) ?_
  refine D5 rfl rfl rfl rfl rfl rfl rfl (C8 (KY (nS (3+(n.tdiv 6).tmod 4) q) true h hF AA) ?_);rintro v S9 ⟨rfl,h⟩
  refine zg ?_
  exact⟨L.length-(i+1),AA,i+1,AA,rfl,sE,.inr ⟨_,t,p,by rw[DS];simp;omega,fun s hs=>(List.mem_append.1 hs).elim (hR s) (fun hs=>by rw[List.mem_singleton.1 hs];exact .note AA hq),PE,h⟩⟩
 refine zg ?_
 have hl:AE S [S] S5 ([(B2,.cells [.string ⟨#[]⟩,.slice none 0 0] 44 false true []),(B,.cells [.string BB,.slice a1 D.length D.length,.int .i64 2,.int .i64 2,.int .i64 t,.int .i64 p,.int .i64 pl,.bool false,.bool dt] 135 false true [])]++(fr++[])) []:=hl.perm (by rw[List.append_nil,←List.append_assoc];exact List.perm_append_comm)
 refine sL hl 0 [.string BB,.slice a1 D.length D.length] fun S6 hl=>?_
 have hl:AE S [S] S6 ([(B2,.cells [.string BB,.slice a1 D.length D.length] 44 false true []),(B,.cells [.string BB,.slice a1 D.length D.length,.int .i64 2,.int .i64 2,.int .i64 t,.int .i64 p,.int .i64 pl,.bool false,.bool dt] 135 false true [])]++(fr++[])) []:=hl
 have W5:CW S6 (.slice a1 D.length D.length) D:=OW.ls (C:=D) (fun _=>rfl) hO hl
 refine zg ?_
 exact BA (Bm rfl (lN (z:=2) (hl.get 0 rfl) rfl) rfl) ⟨hl.AD,a1,D.length,D,rfl,W5,hR,AA⟩
end Go.Proofs.YtmfphenhpkgidaaGreatDoor
namespace Go.Proofs.YtmfphenhpkgidaaGreatDoor
open Go.Cm Go
set_option maxRecDepth 100000
variable{S:St}
def Jf(p:Int×Int):Value:=AX [.int .i64 p.1,.int .i64 p.2]
theorem Rg(a b:Int×Int):Cl Tryz.prog E' 175 (Jf a) (Jf b)=some (decide (a=b)):=by
 have h:Cl Tryz.prog 40 175 (AX [.int .i64 a.1,.int .i64 a.2]) (AX [.int .i64 b.1,.int .i64 b.2])=some ((a.1==b.1)&&((a.2==b.2)&&true)) :=
  WU Tryz.underlying175 AB (FR AB (Cw AB rfl) (Cw AB rfl) (eq_int Tryz.underlying3) (FR AB (Cw AB rfl) (Cw AB rfl) (eq_int Tryz.underlying3) rfl))
 refine h.trans (congrArg some ?_)
 obtain⟨a1,a2⟩:=a
 obtain⟨b1,b2⟩:=b
 rw[Bool.eq_iff_iff]
 simp
theorem Rh(p:Int×Int):F4 Tryz.prog 20 175 (Jf p)=true:=by
 show F4 Tryz.prog (19+1) 175 (AX [.int .i64 p.1,.int .i64 p.2])=true
 kernel_rfl
theorem lK(p:Int×Int):plainKey 20 (Jf p)=true:=rfl
theorem lL(p:Int×Int):CP 1000 (Jf p) (Jf p)=true:=by
 show CP (999+1) (.agg _) (.agg _)=true
 unfold CP
 exact VJ _ 999 (by decide:2<999) (BS (BK _ _) (BS (BK _ _) GG))
abbrev KD:=List ((Int×Int)×Value)
def UA(D:KD)(a b:Int):Value:=(GZ D (a,b)).getD (.int .i64 0)
def bt:Value:= .int .i64 1
def eo(b:Bool):Value:= .int .i64 (bif b then 1 else 0)
def M'(L:List AP)(C:List Sg)(D:KD)(p q:Nat):Prop:= ∀a b:Nat,a≤L.length→b≤C.length→UA D a b=eo ((decide (p≤a)||(decide (a+1=p)&&decide (q≤b)))&&ES L C a b)
def qB(L:List AP)(C:List Sg)(D:KD):Prop:= ∀a b:Nat,a≤L.length→b≤C.length→UA D a b=eo (ES L C a b)
def eO(L:List AP)(C:List Sg)(D:KD)(i:Nat):Prop:= ∀b:Nat,b≤C.length→UA D (i+1) b=eo (ES L C (i+1) b)
def IU(c:Bool)(D:KD)(a b:Int):KD:=bif c then EZ D (a,b) bt else D
theorem Zw(c:Bool)(D:KD)(x y a b:Int):UA (IU c D x y) a b=if(a,b)=(x,y)∧c=true then bt else UA D a b:=by
 unfold IU UA
 cases c with
 |false=>rw[if_neg (fun h=>by cases h.2)];rfl
 |true =>
  show(GZ (EZ D (x,y) bt) (a,b)).getD _=_
  rw[Tw]
  by_cases h:(a,b)=(x,y)
  ·rw[if_pos h,if_pos ⟨h,rfl⟩];rfl
  rw[if_neg h,if_neg (fun e=>h e.1)]
theorem AFe{L:List AP}{C:List Sg}{D:KD}{i q:Nat}(h:M' L C D (i+1) q)(hi:i<L.length):eO L C D i:=fun b hb=>by
 have:=h (i+1) b AA hb
 rw[show decide (i+1≤i+1)=true by simp,Bool.true_or,Bool.true_and]at this
 exact this
theorem AI9{L:List AP}{C:List Sg}{D:KD}{i k:Nat}{c:Bool}(h:eO L C D i):eO L C (IU c D i k) i:=fun b hb=>by
 rw[Zw,if_neg (fun e=>?_)]
 ·exact h b hb
 have:=congrArg Prod.fst e.1
 simp only at this
 omega
theorem AFg(L:List AP)(C:List Sg):M' L C (EZ [] ((L.length:Int),(C.length:Int)) bt) L.length (C.length+1):=fun a b ha hb=>by
 have h0:=Zw true [] L.length C.length a b
 unfold IU at h0
 rw[cond_true]at h0
 rw[h0]
 by_cases hn:a=L.length
 ·subst hn
  rw[AEc hb]
  by_cases hm:b=C.length
  ·subst hm
   rw[if_pos ⟨rfl,rfl⟩];simp;rfl
  rw[if_neg (fun e=>hm (by have:=congrArg Prod.snd e.1;simp only at this;omega))]
  simp[hm];rfl
 rw[if_neg (fun e=>hn (by have:=congrArg Prod.fst e.1;simp only at this;omega))]
 have h1:decide (L.length≤a)=false:=by rw[decide_eq_false_iff_not];omega
 have h2:decide (C.length+1≤b)=false:=by rw[decide_eq_false_iff_not];omega
 rw[h1,h2,Bool.and_false,Bool.or_false,Bool.false_and];rfl
def Ma(L:List AP)(C:List Sg)(i k:Nat)(x:AP):Bool:=match nth C k with
 |some y=>ES L C (i+1) (k+1)&&decide (y∈x.AT)
 |none=>false
theorem AEf{L:List AP}{C:List Sg}{i k:Nat}{x:AP}(hx:nth L i=some x)(hk:k≤C.length):ES L C i k=((x.blank&&ES L C (i+1) k)||Ma L C i k x):=by
 unfold Ma
 by_cases h:k<C.length
 ·obtain⟨y,hy⟩:=Ad h
  rw[AEd hx hy,hy]
 obtain rfl:k=C.length:=by omega
 rw[AEe hx,MQ (Nat.le_refl _),Bool.or_false]
theorem tJ{L:List AP}{C:List Sg}{D:KD}{i k:Nat}{x:AP}(hx:nth L i=some x)(hk:k≤C.length)(h:M' L C D (i+1) (k+1)):M' L C (IU (Ma L C i k x) (IU (x.blank&&ES L C (i+1) k) D i k) i k) (i+1) k:=fun a b ha hb=>by
 rw[Zw,Zw]
 by_cases e:(a:Int)=i∧(b:Int)=k
 ·obtain⟨e1,e2⟩:=e
  obtain rfl:a=i:=by omega
  obtain rfl:b=k:=by omega
  have h1:decide (a+1≤a)=false:=by rw[decide_eq_false_iff_not];omega
  have h2:decide (b+1≤b)=false:=by rw[decide_eq_false_iff_not];omega
  have h0:=h a b ha hb
  rw[h1,h2,Bool.and_false,Bool.or_false,Bool.false_and]at h0
  rw[h1,show decide (a+1=a+1)=true by simp,show decide (b≤b)=true by simp,Bool.and_true,Bool.or_true,Bool.true_and,AEf hx hk]
  cases c1:Ma L C a b x with
  |true=>rw[if_pos ⟨rfl,rfl⟩,Bool.or_true];rfl
  |false =>
   rw[if_neg (fun e=>by cases e.2),Bool.or_false]
   cases c2:(x.blank&&ES L C (a+1) b)with
   |true=>rw[if_pos ⟨rfl,rfl⟩];rfl
   |false=>rw[if_neg (fun e=>by cases e.2)];exact h0
 have Ac:¬((a:Int),(b:Int))=((i:Int),(k:Int)):=fun e2=>e ⟨congrArg Prod.fst e2,congrArg Prod.snd e2⟩
 rw[if_neg (fun e=>Ac e.1),if_neg (fun e=>Ac e.1),h a b ha hb]
 by_cases hi:a=i
 ·subst hi
  have ui:b≠k:=fun e2=>e ⟨rfl,by rw[e2]⟩
  have:decide (k+1≤b)=decide (k≤b):=by rw[Bool.eq_iff_iff];simp;omega
  rw[this]
 have:decide (a+1=i+1)=false:=by rw[decide_eq_false_iff_not];omega
 rw[this,Bool.false_and,Bool.false_and]
theorem AFf{L:List AP}{C:List Sg}{D:KD}{i:Nat}(h:M' L C D (i+1) 0):M' L C D i (C.length+1):=fun a b ha hb=>by
 rw[h a b ha hb]
 have h2:decide (C.length+1≤b)=false:=by rw[decide_eq_false_iff_not];omega
 have h3:decide (0≤b)=true:=by simp
 rw[h2,h3,Bool.and_false,Bool.or_false,Bool.and_true]
 congr 2
 rw[Bool.eq_iff_iff]
 simp
 omega
theorem AFd{L:List AP}{C:List Sg}{D:KD}{q:Nat}(h:M' L C D 0 q):qB L C D:=fun a b ha hb=>by
 rw[h a b ha hb]
 simp
theorem Wg(b:Bool):decide ((bif b then 1 else 0:Int)>0)=b:=by cases b<;>rfl
noncomputable def AEH:Code:=Tryz.f108.body.getD .skip
theorem ANZ(n1 n2:ByteArray)(a1 a2:Option Addr)(Dh Bv:Nat)(L:List AP)(C:List Sg)(hn:L.length≤1000)(hm:C.length≤1000)(hs:∀x,x∈L→x.AT.length≤1000)(hv:EG S (.slice a1 L.length Dh) L)(hw:Ck S (.slice a2 C.length Bv) C):CC Tryz.prog KK 108 [AX [.string n1,.slice a1 L.length Dh],AX [.string n2,.slice a2 C.length Bv]] S (fun v S'=>AL S S'∧(∃M D,v= .map (some M)∧S.size≤M∧M<S'.size∧S'.get M=some (Bu Jf D)∧qB L C D)):=by
 refine Ce (c:=AEH) (n:=85) Tryz.func108 rfl rfl rfl AB rfl rfl ?_
 have hl:=BE.start S
 refine xs AB ?_;refine bL hl fun B2 S2 hl=>?_;refine bL hl fun B3 S3 hl=>?_;refine rm rfl ?_;refine Ak rfl ?_;refine xs AB ?_;refine mq hl (Jf) rfl rfl rfl rfl rfl ?_;intro B8 S8 hl;refine rr rfl (CM rfl rfl (fa Tryz.underlying24 Oc rfl)) ?_;refine rr rfl (rl hl 2 rfl rfl AB rfl rfl) ?_;refine rr rfl (F8 rfl rfl (IK Tryz.underlying22)) ?_;refine rr rfl (CM rfl rfl (fa Tryz.underlying44 J3 rfl)) ?_;refine rr rfl (rl hl 1 rfl rfl AB rfl rfl) ?_;refine rr rfl (F8 rfl rfl (IK Tryz.underlying42)) ?_
 refine rr rfl (A9 rfl rfl (v:=AX [.int .i64 L.length,.int .i64 C.length]) (by rfl)) ?_;refine AJv hl 0 (k:=((L.length:Int),(C.length:Int))) rfl rfl rfl rfl rfl rfl rfl rfl Tryz.underlying172 (Rg) (Rh _) (lK _) (lL _) ?_;intro S1 hl;iterate 2 refine rm rfl ?_
 refine Ak rfl ?_;refine AG rfl ?_;refine xs AB ?_;refine rr rfl (CM rfl rfl (fa Tryz.underlying24 Oc rfl)) ?_;refine rr rfl (rl hl 2 rfl rfl AB rfl rfl) ?_;refine rr rfl (F8 rfl rfl (IK Tryz.underlying22)) ?_;refine rr rfl (Ao rfl rfl rfl (i6 AA)) ?_;refine rm rfl ?_;refine Ak rfl ?_;refine Az rfl ?_
 -- LOOP
 refine AK (L':=[(6,.int .i64 ((L.length:Int)-1)),(5,.map (some B8)),(3,ptrTo B3 0),(2,ptrTo B2 0)]) sE ?_
 refine A2 rfl (fun m Le S'=>∃(p:Nat) (D:KD),p≤L.length∧m=p∧Af [(6,.int .i64 ((p:Int)-1)),(5,.map (some B8)),(3,ptrTo B3 0),(2,ptrTo B2 0)] Le∧M' L C D p (C.length+1)∧AE S [S] S' [(B8,Bu Jf (D)),(B3,.cells [.string n2,.slice a2 C.length Bv] 44 false true []),(B2,.cells [.string n1,.slice a1 L.length Dh] 24 false true [])] []) ?_ (m:=L.length) ⟨L.length,_,Nat.le_refl _,rfl,sE,AFg L C,hl⟩
 clear hl;rintro p Le S' ⟨_,D,hp,rfl,AH,BH,hl⟩;refine AK AH ?_
 refine AG rfl ?_;refine xs AB ?_;refine rm rfl ?_;refine rr rfl (Ao rfl rfl rfl rfl) ?_;refine Ak rfl ?_;refine DQ rfl rfl (fun Dy=>?_) (fun Dy=>?_)
 ·
  obtain⟨i,rfl⟩:∃i,p=i+1:=⟨p-1,dT Dy⟩
  have AN:i<L.length:=by omega
  obtain⟨x,hx⟩:=Ad AN
  obtain⟨b1,o1,BF,ax,NS,Q5,RN,RO,PB⟩:=hv.elem hx
  have FH:x.AT.length≤1000:=hs x (BV hx)
  refine AK (L':=[(6,.int .i64 (i:Int)),(5,.map (some B8)),(3,ptrTo B3 0),(2,ptrTo B2 0)]) ⟨congrArg some (congrArg (Value.int .i64) (show(((i+1:Nat):Int)-1)=(i:Int) by omega)),rfl,rfl,rfl,trivial⟩ ?_;refine Ar rfl ?_;refine AG rfl ?_;refine Az rfl ?_;refine xs AB ?_;refine rr rfl (CM rfl rfl (fa Tryz.underlying44 J3 rfl)) ?_;refine rr rfl (rl hl 1 rfl rfl AB rfl rfl) ?_;refine rr rfl (F8 rfl rfl (IK Tryz.underlying42)) ?_;refine rm rfl ?_;refine Ak rfl ?_;refine Az rfl ?_
  -- LOOP
  refine AK (L':=[(7,.int .i64 (((C.length+1:Nat):Int)-1)),(6,.int .i64 (i:Int)),(5,.map (some B8)),(3,ptrTo B3 0),(2,ptrTo B2 0)]) ⟨congrArg some (congrArg (Value.int .i64) (show(C.length:Int)=(((C.length+1:Nat):Int)-1) by omega)),rfl,rfl,rfl,rfl,trivial⟩ ?_
  refine A2 rfl (fun m Le S'=>∃(q:Nat) (D:KD),q≤C.length+1∧m=q∧Af [(7,.int .i64 ((q:Int)-1)),(6,.int .i64 (i:Int)),(5,.map (some B8)),(3,ptrTo B3 0),(2,ptrTo B2 0)] Le∧M' L C D (i+1) q∧AE S [S] S' [(B8,Bu Jf (D)),(B3,.cells [.string n2,.slice a2 C.length Bv] 44 false true []),(B2,.cells [.string n1,.slice a1 L.length Dh] 24 false true [])] []) ?_ (m:=C.length+1) ⟨C.length+1,D,Nat.le_refl _,rfl,sE,BH,hl⟩
  clear hl BH D;rintro q Le S' ⟨_,D,hq,rfl,PD,BH,hl⟩;refine AK PD ?_
  refine AG rfl ?_;refine xs AB ?_;refine rm rfl ?_;refine rr rfl (Ao rfl rfl rfl rfl) ?_;refine Ak rfl ?_;refine DQ rfl rfl (fun DA=>?_) (fun DA=>?_)
  ·
   obtain⟨k,rfl⟩:∃k,q=k+1:=⟨q-1,dT DA⟩
   have hk:k≤C.length:=by omega
   have u4:=AFe BH AN
   refine AK (L':=[(7,.int .i64 (k:Int)),(6,.int .i64 (i:Int)),(5,.map (some B8)),(3,ptrTo B3 0),(2,ptrTo B2 0)]) ⟨congrArg some (congrArg (Value.int .i64) (show(((k+1:Nat):Int)-1)=(k:Int) by omega)),rfl,rfl,rfl,rfl,trivial⟩ ?_;refine Ar rfl ?_;refine AG rfl ?_;refine Az rfl ?_;refine AG rfl (ABQ (fun S'=>AE S [S] S' [(B8,Bu Jf (IU (x.blank&&ES L C (i+1) k) D i k)),(B3,.cells [.string n2,.slice a2 C.length Bv] 44 false true []),(B2,.cells [.string n1,.slice a1 L.length Dh] 24 false true [])] []) ?_ ?_)
   ·
    refine AG rfl (CR hl 46 (.bool (x.blank&&ES L C (i+1) k)) ?_ rfl ?_)
    ·
     refine xg AB ?_;refine rr rfl (CM rfl rfl (fa Tryz.underlying24 Oc rfl)) ?_;refine rr rfl (rl hl 2 rfl rfl AB rfl rfl) ?_;refine rm rfl ?_;refine rr rfl (Ea rfl rfl rfl (XP (z:=2) Q5 Tryz.underlying22 AB ⟨AA,AA⟩)) ?_;refine rr rfl (CM rfl rfl (fa Tryz.underlying49 Qd rfl)) ?_;refine rr rfl (CU rfl rfl (GN AB (E6 (hl.since 0 rfl) RN) (Ht RO rfl))) ?_;refine rm rfl ?_;refine AZ (d:=38) rfl (fun Fh=>?_) (fun Fh=>?_)
     ·
      iterate 2 refine rm rfl ?_
      refine rr rfl (Ao rfl rfl rfl (i6 AA)) ?_;refine rm rfl ?_;refine rr rfl (A9 rfl rfl (v:=AX [.int .i64 ((i:Int)+1),.int .i64 (k:Int)]) (by rfl)) ?_;refine rr rfl (OD rfl rfl rfl ((N4 (k:=(((i:Int)+1),(k:Int))) Tryz.underlying172 (hl.get 0 rfl) Rg (Rh _) (z:= .int .i64 0) AB).trans (congrArg some (u4 k hk)))) ?_;refine rr rfl (Ao rfl rfl rfl rfl) ?_;refine rm rfl ?_;refine Ak rfl ?_
      exact⟨rfl,bl (by first|(rw[Wg];rw[Fh];rfl)|(rw[Fh];rfl)|(simp[Fh];done)|(simp only[Fh,Ag])),by repeat (first|exact BN _|refine BO rfl ?_),hl⟩
     iterate 7 refine rz rfl ?_
     refine rm rfl ?_;refine Ak rfl ?_
     exact⟨rfl,bl (by first|(rw[Wg];rw[Fh];rfl)|(rw[Fh];rfl)|(simp[Fh];done)|(simp only[Fh,Ag])),by repeat (first|exact BN _|refine BO rfl ?_),hl⟩
    intro S1 hl
    refine DQ rfl rfl (fun JR=>?_) (fun JR=>?_)
    ·
     refine xg AB ?_;iterate 3 refine rm rfl ?_
     refine rr rfl (A9 rfl rfl (v:=AX [.int .i64 (i:Int),.int .i64 (k:Int)]) (by rfl)) ?_;refine YB hl 0 (k:=((i:Int),(k:Int))) rfl rfl rfl rfl rfl rfl rfl rfl Tryz.underlying172 (Rg) (Rh _) (lK _) (lL _) ?_;intro S1 hl;refine Ak rfl ?_
     exact⟨rfl,by repeat (first|exact BN _|refine BO rfl ?_),(by unfold IU;rw[JR];exact hl)⟩
    refine Ar rfl ?_
    exact⟨rfl,by repeat (first|exact BN _|refine BO rfl ?_),(by unfold IU;rw[JR];exact hl)⟩
   intro S1 hl
   refine AG rfl (CR hl 79 (.bool (Ma L C i k x)) ?_ rfl ?_)
   ·
    refine BC (idx:=[0,1,2,3,4,5,6,7,8,9,10,11,12,13,14,15,16,17,18,19,20,21,22,23,24,25,26,27,28]) rfl AB AB ?_;refine pm rfl ?_;refine pr rfl (CM rfl rfl (fa Tryz.underlying44 J3 rfl)) ?_;refine pk rfl (rl hl 1 rfl rfl AB rfl rfl) ?_;refine pk rfl (F8 rfl rfl (IK Tryz.underlying42)) ?_;refine pr rfl (Ao rfl rfl rfl rfl) ?_;refine pm rfl ?_;refine Ep (d:=56) rfl (fun DP=>?_) (fun DP=>?_)
    ·
     have G3:k<C.length:=dT DP
     obtain⟨y,hy⟩:=Ad G3
     obtain⟨b5,o5,cs5,iK,_,jN,jT⟩:=hw.elem hy
     iterate 2 refine pm rfl ?_
     refine pr rfl (Ao rfl rfl rfl (i6 AA)) ?_;refine pm rfl ?_;refine pr rfl (Ao rfl rfl rfl (i6 AA)) ?_;refine pr rfl (A9 rfl rfl (v:=AX [.int .i64 ((i:Int)+1),.int .i64 ((k:Int)+1)]) (by rfl)) ?_;refine pk rfl (OD rfl rfl rfl ((N4 (k:=(((i:Int)+1),((k:Int)+1))) Tryz.underlying172 (hl.get 0 rfl) Rg (Rh _) (z:= .int .i64 0) AB).trans (congrArg some (AI9 u4 (k+1) AA)))) ?_;refine pr rfl (Ao rfl rfl rfl  rfl) ?_;iterate 2 refine pm rfl ?_
     refine Ep (d:=66) rfl (fun JS=>?_) (fun JS=>?_)
     ·
      refine pr rfl (CM rfl rfl (fa Tryz.underlying24 Oc rfl)) ?_;refine pk rfl (rl hl 2 rfl rfl AB rfl rfl) ?_;refine pm rfl ?_;refine pr rfl (Ea rfl rfl rfl (XP (z:=2) Q5 Tryz.underlying22 AB ⟨AA,AA⟩)) ?_;refine pr rfl (CM rfl rfl (fa Tryz.underlying49 Qd rfl)) ?_;refine pk rfl (CU rfl rfl (GN AB (E6 (hl.since 0 rfl) RN) (Ht RO rfl))) ?_;refine pr rfl (CM rfl rfl (fa Tryz.underlying44 J3 rfl)) ?_;refine pk rfl (rl hl 1 rfl rfl AB rfl rfl) ?_;refine pm rfl ?_
      refine pr rfl (Ea rfl rfl rfl (XP (z:=17) iK Tryz.underlying42 AB ⟨AA,AA⟩)) ?_;refine pk rfl (CU rfl rfl (Rk (z:=17) AB AB (E6 (hl.since 0 rfl) jN) jT)) ?_
      refine cX hl rfl rfl rfl rfl rfl rfl rfl (AAc ax NS x.AT y FH (PB.move (hl.since 0 rfl))) ?_;rintro v S1 AM rfl hl;refine⟨OM AB,?_⟩
      refine pm rfl ?_;refine Hr rfl ?_
      exact⟨rfl,bl (by unfold Ma;rw[hy];rw[Wg]at JS;simp only[JS,Bool.true_and]),by repeat (first|exact BN _|refine BO rfl ?_),hl⟩
     iterate 12 refine pz rfl ?_
     refine pm rfl ?_;refine Hr rfl ?_
     exact⟨rfl,bl (by unfold Ma;rw[hy];rw[Wg]at JS;simp only[JS,Bool.false_and]),by repeat (first|exact BN _|refine BO rfl ?_),hl⟩
    iterate 8 refine pz rfl ?_
    iterate 2 refine pm rfl ?_
    iterate 12 refine pz rfl ?_
    refine pm rfl ?_;refine Hr rfl ?_
    exact⟨rfl,bl (by unfold Ma;rw[MQ (dF DP)]),by repeat (first|exact BN _|refine BO rfl ?_),hl⟩
   intro S1 hl
   refine DQ rfl rfl (fun O1=>?_) (fun O1=>?_)
   ·
    refine xg AB ?_;iterate 3 refine rm rfl ?_
    refine rr rfl (A9 rfl rfl (v:=AX [.int .i64 (i:Int),.int .i64 (k:Int)]) (by rfl)) ?_;refine YB hl 0 (k:=((i:Int),(k:Int))) rfl rfl rfl rfl rfl rfl rfl rfl Tryz.underlying172 (Rg) (Rh _) (lK _) (lL _) ?_;intro S1 hl;refine Ak rfl ?_;refine xg AB ?_;refine rm rfl ?_;refine rr rfl (Ao rfl rfl rfl (i6 AA)) ?_;refine rm rfl ?_;refine Ak rfl ?_
    refine⟨k,AA,k,IU (Ma L C i k x) (IU (x.blank&&ES L C (i+1) k) D i k) i k,AA,rfl,sE,tJ hx hk BH,?_⟩
    exact(by unfold IU;rw[O1];exact hl)
   refine Ar rfl ?_;refine xg AB ?_;refine rm rfl ?_;refine rr rfl (Ao rfl rfl rfl (i6 AA)) ?_;refine rm rfl ?_;refine Ak rfl ?_
   refine⟨k,AA,k,IU (Ma L C i k x) (IU (x.blank&&ES L C (i+1) k) D i k) i k,AA,rfl,sE,tJ hx hk BH,?_⟩
   exact(by unfold IU;rw[O1];exact hl)
  refine HB rfl ?_;refine xg AB ?_;refine rm rfl ?_;refine rr rfl (Ao rfl rfl rfl (i6 AA)) ?_;refine rm rfl ?_;refine Ak rfl ?_
  obtain rfl:q=0:=dF DA
  exact⟨i,AA,i,D,AA,rfl,sE,AFf BH,hl⟩
 refine HB rfl ?_;refine xs AB ?_;iterate 2 refine rm rfl ?_
 refine Ak rfl ?_;refine Gt rfl ?_
 refine BA (BD rfl rfl) ⟨hl.AD,(by obtain rfl:p=0:=(dF Dy);exact⟨B8,D,rfl,(hl.at_ _ _ Al).2.1,(hl.at_ _ _ Al).2.2,hl.get 0 rfl,AFd BH⟩)⟩
end Go.Proofs.YtmfphenhpkgidaaGreatDoor
namespace Go.Proofs.YtmfphenhpkgidaaGreatDoor
open Go.Cm Go
set_option maxRecDepth 100000
variable{S:St}
def KP(x:Int):Value:= .int .i64 x
def OU(S:St)(v:Value)(l:List Int):Prop:=DL S 3 1 v (l.map fun x=>[KP x])
theorem OU.C5{S:St}{v:Value}{l:List Int}(h:OU S v l):∃a cap,v= .slice a l.length cap:=by
 obtain⟨a,cap,e⟩:=DL.is h
 exact⟨a,cap,by simpa using e⟩
theorem AHh(S:St):OU S (.slice none 0 0) []:= .inl ⟨rfl,.inl rfl⟩
theorem tL:∀l:List Int,(l.map fun x=>[KP x]).flatten=l.map KP
 | []=>rfl
 |x::l=>by rw[List.map_cons,List.flatten_cons,tL l];rfl
theorem AF2{S0 S:St}{v:Value}{l:List Int}(h:Am S0 S ⟨v,3,1,l.map KP,l.length⟩):OU S v l :=
 Am.sliceAt (g:=⟨v,3,1,l.map KP,l.length⟩) h (by simp) (tL l).symm (fun x hx=>by
  obtain⟨s,_,rfl⟩:=List.mem_map.1 hx
  rfl)
theorem AFG(b:Bool):((bif b then 1 else 0:Int)==0)=!b:=by cases b<;>rfl
def NT(L:List AP)(C:List Sg)(i k:Nat):Bool:=match nth C k with
 |some _=>ES L C (i+1) (k+1)
 |none=>false
def nF(L:List AP)(C:List Sg)(i k:Nat)(x:AP):Int:=match nth C k with
 |some y=>bif ES L C (i+1) (k+1)then G4 x.AT y 0 else-1
 |none=> -1
theorem AIs{L:List AP}{C:List Sg}{i k:Nat}{x:AP}{y:Sg}(hy:nth C k=some y)(h:NT L C i k=true):G4 x.AT y 0=nF L C i k x:=by
 unfold NT at h
 unfold nF
 rw[hy]at h ⊢
 have h':ES L C (i+1) (k+1)=true:=h
 simp only[h',cond_true]
theorem AIr{L:List AP}{C:List Sg}{i k:Nat}{x:AP}(h:NT L C i k=false): -1=nF L C i k x:=by
 unfold NT at h
 unfold nF
 split at h
 ·rename_i y hy
  simp only[h,cond_false]
 rename_i hy
 rfl
theorem sH{L:List AP}{C:List Sg}{i k:Nat}(h:NT L C i k=true):k<C.length:=by
 unfold NT at h
 split at h
 ·rename_i y hy;exact I5 hy
 cases h
theorem Zb(x:AP)(r:List AP)(y:Sg)(l:List Sg):Di (x::r) (y::l)=bif FQ r l&&decide (y∈x.AT)then G4 x.AT y 0::Di r l else(x.AT.length:Int)::Di r (y::l):=by rw[Di]
theorem AEp(x:AP)(r:List AP):Di (x::r) []=(x.AT.length:Int)::Di r []:=by rw[Di]
theorem AEq{L:List AP}{C:List Sg}{i k:Nat}{x:AP}(hx:nth L i=some x)(h:decide (nF L C i k x<0)=true):Di (L.drop i) (C.drop k)=(x.AT.length:Int)::Di (L.drop (i+1)) (C.drop k):=by
 rw[C9 hx]
 by_cases hk:k<C.length
 ·obtain⟨y,hy⟩:=Ad hk
  unfold nF at h
  rw[hy]at h
  rw[C9 hy,Zb]
  unfold ES at h
  cases hc:FQ (L.drop (i+1)) (C.drop (k+1))with
  |false=>rfl
  |true =>
   rw[hc]at h
   have hm:=au x.AT y 0
   have:decide (y∈x.AT)=false:=by
    rw[←hm]
    simp only[cond_true,decide_eq_true_eq]at h
    simp only[decide_eq_false_iff_not]
    omega
   rw[this];rfl
 rw[show C.drop k= []from List.drop_eq_nil_of_le AA,AEp]
theorem AEr{L:List AP}{C:List Sg}{i k:Nat}{x:AP}(hx:nth L i=some x)(h:decide (nF L C i k x<0)=false):Di (L.drop i) (C.drop k)=nF L C i k x::Di (L.drop (i+1)) (C.drop (k+1))∧k<C.length:=by
 rw[C9 hx]
 by_cases hk:k<C.length
 ·obtain⟨y,hy⟩:=Ad hk
  refine⟨?_,hk⟩
  unfold nF at h ⊢
  rw[hy]at h ⊢
  rw[C9 hy,Zb]
  unfold ES at h ⊢
  cases hc:FQ (L.drop (i+1)) (C.drop (k+1))with
  |false=>rw[hc]at h;simp at h
  |true =>
   rw[hc]at h
   have hm:=au x.AT y 0
   have:decide (y∈x.AT)=true:=by
    rw[←hm]
    simp only[cond_true,decide_eq_false_iff_not]at h
    simp only[decide_eq_true_eq]
    omega
   rw[this];rfl
 unfold nF at h
 rw[MQ AA]at h
 simp at h
def J7(n1 n2:List UInt8)(L:List AP)(C:List Sg):Bool:=!GQ n1 n2||!ES L C 0 0
def R7(n1 n2:List UInt8)(L:List AP)(C:List Sg):List Int:=bif J7 n1 n2 L C then []else Di L C
theorem ANB{n1 n2:List UInt8}{L:List AP}{C:List Sg}(h:J7 n1 n2 L C=true){S:St}:(∃w,Aw [.slice none 0 0,.bool false]=Aw [w,.bool (!J7 n1 n2 L C)]∧OU S w (R7 n1 n2 L C)):=by
 unfold R7;rw[h];exact⟨_,rfl,AHh S⟩
theorem ANC{n1 n2:List UInt8}{L:List AP}{C:List Sg}{O:List Int}(h:J7 n1 n2 L C=false)(ho:O++Di (L.drop L.length) []=Di L C){S:St}{w:Value}(hw:OU S w O):(∃w',Aw [w,.bool true]=Aw [w',.bool (!J7 n1 n2 L C)]∧OU S w' (R7 n1 n2 L C)):=by
 unfold R7;rw[h]
 rw[List.drop_length]at ho
 have:O=Di L C:=by rw[←ho];unfold Di;rw[List.append_nil]
 rw[←this]
 exact⟨_,rfl,hw⟩
theorem AEo{L:List AP}{C:List Sg}{i k:Nat}(h:L.length≤i):Di (L.drop i) (C.drop k)= []:=by
 rw[List.drop_eq_nil_of_le h];unfold Di;rfl
noncomputable def c85:Code:=Tryz.f85.body.getD .skip
theorem AOh(n1 n2:ByteArray)(a1 a2:Option Addr)(Dh Bv:Nat)(L:List AP)(C:List Sg)(hn:L.length≤1000)(hm:C.length≤1000)(hs:∀x,x∈L→x.AT.length≤1000)(hv:EG S (.slice a1 L.length Dh) L)(hw:Ck S (.slice a2 C.length Bv) C):CC Tryz.prog KK 85 [AX [.string n1,.slice a1 L.length Dh],AX [.string n2,.slice a2 C.length Bv]] S (fun v S'=>AL S S'∧(∃w,v=Aw [w,.bool (!J7 n1.data.toList n2.data.toList L C)]∧OU S' w (R7 n1.data.toList n2.data.toList L C))):=by
 refine Ce (c:=c85) (n:=73) Tryz.func85 rfl rfl rfl AB rfl rfl ?_
 have hl:=BE.start S
 refine xs AB ?_;refine bL hl fun B2 S2 hl=>?_;refine bL hl fun B3 S3 hl=>?_;iterate 2 refine rm rfl ?_
 refine Ak rfl ?_;refine xs AB ?_;refine rr rfl (CU rfl rfl (CD (z:=2) AB AB (hl.get 1 rfl) rfl)) ?_;refine rr rfl (CU rfl rfl (CD (z:=2) AB AB (hl.get 0 rfl) rfl)) ?_
 have hbl:=hl.below
 have hk0:=hl.AD
 refine Pf hl rfl rfl rfl rfl rfl rfl rfl (ANZ n1 n2 a1 a2 Dh Bv L C hn hm hs (hv.move (hl.since 0 rfl)) (hw.move (hl.since 0 rfl))) ?_;rintro v S1 AM ⟨M,D,rfl,uC,UH,hM3,Dc⟩ hl
 have hl:=hl.ABq hbl hk0 uC UH hM3
 refine rm rfl ?_;refine Ak rfl ?_;refine AG rfl ?_;refine AG rfl (CR hl 25 (.bool (J7 n1.data.toList n2.data.toList L C)) ?_ rfl ?_)
 ·
  refine xg AB ?_;refine rr rfl (CM rfl rfl (fa Tryz.underlying24 Oc rfl)) ?_;refine rr rfl (rl hl 1 rfl rfl AB rfl rfl) ?_;refine rr rfl (CM rfl rfl (fa Tryz.underlying44 J3 rfl)) ?_;refine rr rfl (rl hl 0 rfl rfl AB rfl rfl) ?_;refine rr rfl (Ao rfl rfl rfl rfl) ?_;refine rm rfl ?_;refine AZ (d:=20) rfl (fun Cq=>?_) (fun Cq=>?_)
  ·
   iterate 4 refine rz rfl ?_
   refine rm rfl ?_;refine Ak rfl ?_
   exact⟨rfl,bl (by unfold J7;rw[Cq];rfl),by repeat (first|exact BN _|refine BO rfl ?_),hl⟩
  refine rm rfl ?_;refine rr rfl (A9 rfl rfl (v:=AX [.int .i64 0,.int .i64 0]) (by rfl)) ?_;refine rr rfl (OD rfl rfl rfl ((N4 (k:=((0:Int),(0:Int))) Tryz.underlying172 (hl.get 2 rfl) Rg (Rh _) (z:= .int .i64 0) AB).trans (congrArg some (Dc 0 0 AA AA)))) ?_;refine rr rfl (Ao rfl rfl rfl rfl) ?_;refine rm rfl ?_;refine Ak rfl ?_
  exact⟨rfl,bl (by unfold J7;rw[AFG,Cq];rfl),by repeat (first|exact BN _|refine BO rfl ?_),hl⟩
 intro S1 hl
 refine DQ rfl rfl (fun C'=>?_) (fun C'=>?_)
 ·
  refine xs AB ?_;iterate 2 refine rm rfl ?_
  refine Ak rfl ?_;refine Gt rfl ?_
  refine Ai (BA (BD rfl (BD rfl rfl)) ⟨hl.AD,ANB C'⟩)
 refine Ar rfl ?_;refine xs AB ?_;refine rm rfl ?_;refine Ak rfl ?_;refine xs AB ?_;refine rm rfl ?_;refine Ak rfl ?_;refine AG rfl ?_;refine xs AB ?_;refine rr rfl (CM rfl rfl (fa Tryz.underlying24 Oc rfl)) ?_;refine rr rfl (rl hl 1 rfl rfl AB rfl rfl) ?_;refine rr rfl (F8 rfl rfl (IK Tryz.underlying22)) ?_;refine rm rfl ?_;refine Ak rfl ?_;refine Az rfl ?_
 -- LOOP
 refine AK (L':=[(29,.int .i64 0),(8,.int .i64 0),(7,.slice none 0 0),(28,.int .i64 L.length),(27,.slice a1 L.length Dh),(6,.map (some M)),(3,ptrTo B3 0),(2,ptrTo B2 0)]) sE ?_
 have hl:=hl.D2 (g:=⟨.slice none ([]:List Int).length ([]:List Int).length,3,1,(([]:List Int)).map KP,([]:List Int).length⟩) (.inl ⟨rfl,rfl,rfl⟩)
 refine A2 rfl (fun m Le S'=>∃(i k:Nat) (O:List Int) (av:Option Addr),i≤L.length∧m=L.length-i∧k≤C.length∧Af [(29,.int .i64 (i:Int)),(8,.int .i64 (k:Int)),(7,.slice av O.length O.length),(28,.int .i64 L.length),(27,.slice a1 L.length Dh),(6,.map (some M)),(3,ptrTo B3 0),(2,ptrTo B2 0)] Le∧O++Di (L.drop i) (C.drop k)=Di L C∧O.length=i∧AE S [S] S' [(B3,.cells [.string n2,.slice a2 C.length Bv] 44 false true []),(B2,.cells [.string n1,.slice a1 L.length Dh] 24 false true []),(M,Bu Jf D)] [⟨.slice av O.length O.length,3,1,(O).map KP,O.length⟩]) ?_ (m:=L.length) ⟨0,0,[],none,AA,rfl,AA,sE,rfl,rfl,hl⟩
 clear hl;rintro m Le S' ⟨i,k,O,av,hi,rfl,hk,AH,DI,uE,hl⟩;refine AK AH ?_
 refine xs AB ?_;refine rr rfl (Ao rfl rfl rfl rfl) ?_;refine Ak rfl ?_;refine AG rfl ?_;refine DQ rfl rfl (fun CJ=>?_) (fun CJ=>?_)
 ·
  have AN:i<L.length:=dT CJ
  obtain⟨x,hx⟩:=Ad AN
  obtain⟨bx,ox,fV,ax,NS,Q5,RN,RO,PB⟩:=hv.elem hx
  have FH:x.AT.length≤1000:=hs x (BV hx)
  refine Ar rfl ?_;refine AG rfl ?_;refine Az rfl ?_;refine xs AB ?_;refine rm rfl ?_;refine rr rfl (Ea rfl rfl rfl (XP (z:=2) Q5 Tryz.underlying22 AB ⟨AA,AA⟩)) ?_;refine rr rfl (CU rfl rfl (Rk (z:=2) AB AB (E6 (hl.since 0 rfl) RN) RO)) ?_;refine aL hl [.slice none 0 0,.bool false] fun Hv GB hl=>?_;refine rm rfl ?_;refine CN hl 0 rfl rfl rfl rfl rfl rfl rfl AB rfl ?_;intro S1 hl;refine Ak rfl ?_;refine xs AB ?_;refine rm rfl ?_;refine Ak rfl ?_
  refine AG rfl (HV [(11,.int .i64 (nF L C i k x)),(10,ptrTo Hv 0),(9,.int .i64 (i:Int)),(29,.int .i64 (i:Int)),(8,.int .i64 (k:Int)),(7,.slice av O.length O.length),(28,.int .i64 L.length),(27,.slice a1 L.length Dh),(6,.map (some M)),(3,ptrTo B3 0),(2,ptrTo B2 0)] (fun S'=>AE S [S] S' [(Hv,.cells [.slice ax x.AT.length NS,.bool x.blank] 49 false true []),(B3,.cells [.string n2,.slice a2 C.length Bv] 44 false true []),(B2,.cells [.string n1,.slice a1 L.length Dh] 24 false true []),(M,Bu Jf D)] [⟨.slice av O.length O.length,3,1,(O).map KP,O.length⟩]) ?_ ?_)
  ·
   refine AG rfl (CR hl 48 (.bool (NT L C i k)) ?_ rfl ?_)
   ·
    refine xg AB ?_;refine rm rfl ?_;refine rr rfl (CM rfl rfl (fa Tryz.underlying44 J3 rfl)) ?_;refine rr rfl (rl hl 1 rfl rfl AB rfl rfl) ?_;refine rr rfl (F8 rfl rfl (IK Tryz.underlying42)) ?_;refine rr rfl (Ao rfl rfl rfl rfl) ?_;refine rm rfl ?_;refine AZ (d:=39) rfl (fun EB=>?_) (fun EB=>?_)
    ·
     have G3:k<C.length:=dT EB
     obtain⟨y,hy⟩:=Ad G3
     iterate 2 refine rm rfl ?_
     refine rr rfl (Ao rfl rfl rfl (i6 AA)) ?_;refine rm rfl ?_;refine rr rfl (Ao rfl rfl rfl (i6 AA)) ?_;refine rr rfl (A9 rfl rfl (v:=AX [.int .i64 ((i:Int)+1),.int .i64 ((k:Int)+1)]) (by rfl)) ?_;refine rr rfl (OD rfl rfl rfl ((N4 (k:=(((i:Int)+1),((k:Int)+1))) Tryz.underlying172 (hl.get 3 rfl) Rg (Rh _) (z:= .int .i64 0) AB).trans (congrArg some (Dc (i+1) (k+1) AA AA)))) ?_;refine rr rfl (Ao rfl rfl rfl  rfl) ?_;refine rm rfl ?_;refine Ak rfl ?_
     exact⟨rfl,bl (by rw[Wg];unfold NT;rw[hy]),by repeat (first|exact BN _|refine BO rfl ?_),hl⟩
    iterate 8 refine rz rfl ?_
    refine rm rfl ?_;refine Ak rfl ?_
    exact⟨rfl,bl (by unfold NT;rw[MQ (dF EB)]),by repeat (first|exact BN _|refine BO rfl ?_),hl⟩
   intro S1 hl
   refine DQ rfl rfl (fun EK=>?_) (fun EK=>?_)
   ·
    obtain⟨y,hy⟩:=Ad (sH EK)
    have aO:=sH EK
    obtain⟨b5,o5,cs5,iK,_,jN,jT⟩:=hw.elem hy
    refine BC (idx:=[0,1,2,3,4,5,6,7,8]) rfl AB AB ?_;refine pr rfl (CM rfl rfl (fa Tryz.underlying49 Qd rfl)) ?_;refine pk rfl (rl hl 0 rfl rfl AB rfl rfl) ?_;refine pr rfl (CM rfl rfl (fa Tryz.underlying44 J3 rfl)) ?_;refine pk rfl (rl hl 1 rfl rfl AB rfl rfl) ?_;refine pm rfl ?_;refine pr rfl (Ea rfl rfl rfl (XP (z:=17) iK Tryz.underlying42 AB ⟨AA,AA⟩)) ?_;refine pk rfl (CU rfl rfl (Rk (z:=17) AB AB (E6 (hl.since 0 rfl) jN) jT)) ?_
    refine cX hl rfl rfl rfl rfl rfl rfl rfl (AAh ax NS x.AT y FH (PB.move (hl.since 0 rfl))) ?_;rintro v S1 AM rfl hl;refine⟨OM AB,?_⟩
    refine pm rfl ?_;refine Hr rfl ?_
    exact⟨rfl,⟨congrArg some (congrArg (Value.int .i64) (AIs hy EK)),rfl,rfl,rfl,rfl,rfl,rfl,rfl,rfl,rfl,rfl,trivial⟩,hl⟩
   refine Ar rfl ?_
   exact⟨rfl,⟨congrArg some (congrArg (Value.int .i64) (AIr EK)),rfl,rfl,rfl,rfl,rfl,rfl,rfl,rfl,rfl,rfl,trivial⟩,hl⟩
  intro S1 hl
  refine AG rfl ?_;refine xs AB ?_;refine rm rfl ?_;refine rr rfl (Ao rfl rfl rfl  rfl) ?_;refine Ak rfl ?_;refine DQ rfl rfl (fun Wj=>?_) (fun Wj=>?_)
  ·
   refine xs AB ?_;refine rm rfl ?_;refine rr rfl (CM rfl rfl (fa Tryz.underlying49 Qd rfl)) ?_;refine rr rfl (rl hl 0 rfl rfl AB rfl rfl) ?_;refine rr rfl (F8 rfl rfl (IK Tryz.underlying42)) ?_;refine dL hl [KP (x.AT.length:Int)] Tryz.underlying38 fun B63 S1 AHH hl=>?_;refine DZ hl 0 rfl rfl (by simp) rfl rfl rfl rfl rfl rfl rfl Tryz.underlying38 Tryz.underlying38 rfl rfl AB (YW (new:=[KP (x.AT.length:Int)]) AHH rfl) rfl rfl AB (by show O.length+1≤Ae;unfold Ae;omega) ?_;intro v64 S1 hl
   obtain⟨As,rfl⟩:∃As,v64= .slice As (O.length+1) (O.length+1):=Am.is (hl.gr _ Al)
   refine rm rfl ?_;refine Ak rfl ?_;refine HB rfl ?_;refine xg AB ?_;refine rr rfl (Ao rfl rfl rfl (i6 AA)) ?_;refine rm rfl ?_;refine Ak rfl ?_
   refine⟨L.length-(i+1),AA,i+1,k,O++[(x.AT.length:Int)],As,AA,rfl,hk,⟨rfl,rfl,congrArg some (congrArg (fun n=>Value.slice As n n) (by rw[DS];rfl)),rfl,rfl,rfl,rfl,rfl,trivial⟩,?_,by rw[DS,uE];rfl,?_⟩
   ·rw[List.append_assoc,List.singleton_append,←AEq hx Wj];exact DI
   rw[DS,Hm];exact hl.tail
  refine Ar rfl ?_;refine xs AB ?_;iterate 2 refine rm rfl ?_
  have uM:=AEr hx Wj
  have ED:=uM.2
  refine dL hl [KP (nF L C i k x)] Tryz.underlying38 fun B67 S1 AHI hl=>?_;refine DZ hl 0 rfl rfl (by simp) rfl rfl rfl rfl rfl rfl rfl Tryz.underlying38 Tryz.underlying38 rfl rfl AB (YW (new:=[KP (nF L C i k x)]) AHI rfl) rfl rfl AB (by show O.length+1≤Ae;unfold Ae;omega) ?_;intro v68 S1 hl
  obtain⟨As,rfl⟩:∃As,v68= .slice As (O.length+1) (O.length+1):=Am.is (hl.gr _ Al)
  refine rm rfl ?_;refine Ak rfl ?_;refine xg AB ?_;refine rm rfl ?_;refine rr rfl (Ao rfl rfl rfl (i6 AA)) ?_;refine rm rfl ?_;refine Ak rfl ?_;refine xg AB ?_;refine rr rfl (Ao rfl rfl rfl (i6 AA)) ?_;refine rm rfl ?_;refine Ak rfl ?_
  refine⟨L.length-(i+1),AA,i+1,k+1,O++[nF L C i k x],As,AA,rfl,AA,⟨rfl,rfl,congrArg some (congrArg (fun n=>Value.slice As n n) (by rw[DS];rfl)),rfl,rfl,rfl,rfl,rfl,trivial⟩,?_,by rw[DS,uE];rfl,?_⟩
  ·rw[List.append_assoc,List.singleton_append,←uM.1];exact DI
  rw[DS,Hm];exact hl.tail
 refine HB rfl ?_;refine xs AB ?_;iterate 3 refine rm rfl ?_
 refine Ak rfl ?_;refine Gt rfl ?_
 refine BA (BD rfl (BD rfl rfl)) ⟨hl.AD,ANC C' (by rw[List.drop_length,←DI,AEo (dF CJ)];unfold Di;rfl) (AF2 (hl.gr _ Al))⟩
end Go.Proofs.YtmfphenhpkgidaaGreatDoor
namespace Go.Proofs.YtmfphenhpkgidaaGreatDoor
open Go.Cm Go
set_option maxRecDepth 100000
variable{S:St}
def gD(n1 n2:List UInt8)(L:List AP)(C:List Sg)(S:St)(v:Value):Prop:= ∃w,v=Aw [w,.bool (findF n1 n2 L C).2.1,.int .i64 (findF n1 n2 L C).2.2]∧Kh S w (findF n1 n2 L C).1
theorem AFY{n1 n2:List UInt8}{L:List AP}{C:List Sg}(h:((DF n1 L).1 !=0)=true):findF n1 n2 L C=([],false,(DF n1 L).1):=by unfold findF;rw[h];rfl
theorem AFZ{n1 n2:List UInt8}{L:List AP}{C:List Sg}(h:((DF n1 L).1 !=0)=false)(h2:((Df n2 C).1 !=0)=true):findF n1 n2 L C=([],false,(Df n2 C).1):=by unfold findF;rw[h,h2];rfl
theorem AFa{n1 n2:List UInt8}{L:List AP}{C:List Sg}(h:((DF n1 L).1 !=0)=false)(h2:((Df n2 C).1 !=0)=false):findF n1 n2 L C=(R7 n1 n2 L C, !J7 n1 n2 L C,0):=by
 unfold findF R7
 rw[h,h2]
 show(bif J7 n1 n2 L C then _ else _)=_
 cases J7 n1 n2 L C<;>rfl
theorem gE{n1 n2:List UInt8}{L:List AP}{C:List Sg}{S:St}{w:Value}{l:List Int}{b:Bool}{e:Int}(h:findF n1 n2 L C=(l,b,e))(hw:Kh S w l):gD n1 n2 L C S (Aw [w,.bool b,.int .i64 e]):=by
 unfold gD;rw[h];exact⟨w,rfl,hw⟩
noncomputable def c59:Code:=Tryz.f59.body.getD .skip
theorem AAg(n1 n2:ByteArray)(a1 a2:Option Addr)(Dh Bv:Nat)(L:List AP)(C:List Sg)(hn:L.length≤1000)(hm:C.length≤1000)(hs:∀x,x∈L→x.AT.length≤1000)(hv:EG S (.slice a1 L.length Dh) L)(hw:Ck S (.slice a2 C.length Bv) C)(hG:Gl S):CC Tryz.prog KK 59 [AX [.string n1,.slice a1 L.length Dh],AX [.string n2,.slice a2 C.length Bv]] S (fun v S'=>AL S S'∧gD n1.data.toList n2.data.toList L C S' v):=by
 refine Ce (c:=c59) (n:=37) Tryz.func59 rfl rfl rfl AB rfl rfl ?_
 have hl:=BE.start S
 refine xs AB ?_;refine bL hl fun B2 S2 hl=>?_;refine bL hl fun B3 S3 hl=>?_;iterate 3 refine rm rfl ?_
 refine Ak rfl ?_;refine AG rfl ?_;refine xs AB ?_;refine rr rfl (CU rfl rfl (CD (z:=2) AB AB (hl.get 1 rfl) rfl)) ?_
 refine Pf hl rfl rfl rfl rfl rfl rfl rfl (AAl n1 a1 Dh L hn hs (hG.AD hl.AD) (hv.move (hl.since 0 rfl))) ?_;rintro v S1 AM rfl hl
 iterate 5 refine rm rfl ?_
 refine Ak rfl ?_;refine xs AB ?_;refine rm rfl ?_;refine rr rfl (Ao rfl rfl rfl rfl) ?_;refine Ak rfl ?_;refine DQ rfl rfl (fun DN=>?_) (fun DN=>?_)
 ·
  refine xs AB ?_;iterate 4 refine rm rfl ?_
  refine Ak rfl ?_;refine Gt rfl ?_
  refine Ai (BA (BD rfl (BD rfl (BD rfl rfl))) ⟨hl.AD,gE (AFY DN) (vq _)⟩)
 refine Ar rfl ?_;refine AG rfl ?_;refine xs AB ?_;refine rr rfl (CU rfl rfl (CD (z:=2) AB AB (hl.get 0 rfl) rfl)) ?_
 refine Pf hl rfl rfl rfl rfl rfl rfl rfl (AAe n2 a2 Bv C hm (hG.AD hl.AD) (hw.move (hl.since 0 rfl))) ?_;rintro v S1 AM rfl hl
 iterate 5 refine rm rfl ?_
 refine Ak rfl ?_;refine xs AB ?_;refine rm rfl ?_;refine rr rfl (Ao rfl rfl rfl rfl) ?_;refine Ak rfl ?_;refine DQ rfl rfl (fun CX=>?_) (fun CX=>?_)
 ·
  refine xs AB ?_;iterate 4 refine rm rfl ?_
  refine Ak rfl ?_;refine Gt rfl ?_
  refine Ai (BA (BD rfl (BD rfl (BD rfl rfl))) ⟨hl.AD,gE (AFZ DN CX) (vq _)⟩)
 refine Ar rfl ?_;refine xs AB ?_;refine rr rfl (CU rfl rfl (CD (z:=2) AB AB (hl.get 1 rfl) rfl)) ?_;refine rr rfl (CU rfl rfl (CD (z:=2) AB AB (hl.get 0 rfl) rfl)) ?_
 refine Pf hl rfl rfl rfl rfl rfl rfl rfl (AOh n1 n2 a1 a2 Dh Bv L C hn hm hs (hv.move (hl.since 0 rfl)) (hw.move (hl.since 0 rfl))) ?_;rintro v S1 AM ⟨w,rfl,Ud⟩ hl
 iterate 5 refine rm rfl ?_
 refine Ak rfl ?_;refine xs AB ?_;iterate 5 refine rm rfl ?_
 refine Ak rfl ?_;refine Gt rfl ?_
 refine BA (BD rfl (BD rfl (BD rfl rfl))) ⟨hl.AD,gE (AFa DN CX) Ud⟩
noncomputable def c19:Code:=Tryz.f19.body.getD .skip
theorem ANz(n1 n2:ByteArray)(a1 a2:Option Addr)(Dh Bv:Nat)(L:List AP)(C:List Sg)(hn:L.length≤1000)(hm:C.length≤1000)(hs:∀x,x∈L→x.AT.length≤1000)(hv:EG S (.slice a1 L.length Dh) L)(hw:Ck S (.slice a2 C.length Bv) C)(hG:Gl S):CC Tryz.prog KK 19 [AX [.string n1,.slice a1 L.length Dh],AX [.string n2,.slice a2 C.length Bv]] S (fun v S'=>AL S S'∧v=Aw [.bool (findF n1.data.toList n2.data.toList L C).2.1,.int .i64 (findF n1.data.toList n2.data.toList L C).2.2]):=by
 refine Ce (c:=c19) (n:=18) Tryz.func19 rfl rfl rfl AB rfl rfl ?_
 have hl:=BE.start S
 refine xs AB ?_;refine bL hl fun B2 S2 hl=>?_;refine bL hl fun B3 S3 hl=>?_;iterate 2 refine rm rfl ?_
 refine Ak rfl ?_;refine xs AB ?_;refine rr rfl (CU rfl rfl (CD (z:=2) AB AB (hl.get 1 rfl) rfl)) ?_;refine rr rfl (CU rfl rfl (CD (z:=2) AB AB (hl.get 0 rfl) rfl)) ?_
 refine Pf hl rfl rfl rfl rfl rfl rfl rfl (AAg n1 n2 a1 a2 Dh Bv L C hn hm hs (hv.move (hl.since 0 rfl)) (hw.move (hl.since 0 rfl)) (hG.AD hl.AD)) ?_;rintro v S1 AM ⟨w,rfl,Ud⟩ hl
 iterate 7 refine rm rfl ?_
 refine Ak rfl ?_;refine xs AB ?_;iterate 4 refine rm rfl ?_
 refine Ak rfl ?_;refine Gt rfl ?_
 refine BA (BD rfl (BD rfl rfl)) ⟨hl.AD,rfl⟩
end Go.Proofs.YtmfphenhpkgidaaGreatDoor
namespace Go.Proofs.YtmfphenhpkgidaaGreatDoor
open Go.Cm Go
set_option maxRecDepth 100000
variable{S:St}
def JC(s:Sg)(w:Int):Sg:={s with value:=w}
def Tq(x:AP):Prop:= ∃s,GX s∧(x.AT= [s]∨∃val:Int,(3≤val∧val≤5)∧s.kind=1∧s≠JC s val∧x.AT= [s,JC s val])
set_option maxHeartbeats 4000000 in
theorem ANt(a:Option Addr)(cap:Nat)(L:List Int)(hF:BW S)(hv:CZ S (.slice a L.length cap) L):CC Tryz.prog KK 18 [.slice a L.length cap] S (fun v S'=>AL S S'∧(∃ap E,v=AX [.string BB,.slice ap E.length E.length]∧EG S' (.slice ap E.length E.length) E∧(∀x,x∈E→Tq x)∧E.length≤14)):=by
 refine ce 112 Tryz.func18 fun hl=>?_;refine zg ?_;refine aL hl ([.string ⟨#[]⟩,.slice none 0 0]) fun B2 S2 hl=>?_;refine zA ?_;refine zS ?_;refine AG rfl ?_;refine zS ?_;refine Az rfl ?_
 have hl:=hl.D2 (g:=Cx none []) (.inl ⟨rfl,rfl,rfl⟩)
 refine AK (L':=[(4,.int .i64 0),(3,.slice none 0 0),(2,ptrTo B2 0),(0,.slice a L.length cap)]) sE ?_
 refine A2 rfl (fun m Le S'=>∃(i:Nat) (av:Option Addr) (D:List Int),i≤6∧m=6-i∧D.length=i∧Af [(4,.int .i64 (i:Int)),(3,.slice av D.length D.length),(2,ptrTo B2 0),(0,.slice a L.length cap)] Le∧AE S [S] S' [(B2,.cells [.string ⟨#[]⟩,.slice none 0 0] 24 false true [])] [Cx av D]) ?_ (m:=6) ⟨0,none,[],AA,AA,rfl,sE,hl⟩
 clear hl;rintro m Le S' ⟨i,av,D,hi,rfl,hDi,AH,hl⟩;refine AK AH ?_
 refine AG rfl ?_;refine AG rfl (CR hl 18 (.bool (decide ((i:Int)<(L.length:Int))&&decide ((i:Int)<6))) ?_ rfl ?_)
 ·
  refine zg ?_;refine AZ (d:=15) rfl (fun Bf=>?_) (fun Bf=>?_)
  ·
   refine zg ?_
   exact⟨rfl,bl (by rw[Bf];simp),sB,hl⟩
  refine zg ?_
  exact⟨rfl,bl (by rw[Bf];simp),sB,hl⟩
 intro S3 hl
 refine zg ?_
 constructor<;>intro Ct
 ·
  have AN:i<L.length:=by simp at Ct;omega
  have hi6:i<6:=by simp at Ct;omega
  obtain⟨x0,IG⟩:=Ad AN
  obtain⟨b3,o3,H3,ha,_,AQ,Aa⟩:=hv.elem IG
  refine Ar rfl ?_;refine zg ?_;refine dL hl (ic x0) Tryz.underlying38 fun B26 S4 hr hl=>?_;refine DZ hl 0 rfl rfl (by simp) rfl rfl rfl rfl rfl rfl rfl Tryz.underlying38 Tryz.underlying38 rfl rfl AB (Cj (n:=1) (cap:=1) hr rfl) rfl rfl AB (by show D.length+1≤Ae;unfold Ae;omega) ?_;intro om S5 hl
  obtain⟨As,rfl⟩:∃x,om= .slice x (D.length+1) (D.length+1):=Am.C5 (hl.gr _ Al)
  have hl:AE S [S] S5 _ [Cx As (D++[x0])]:=JQ hl
  have e1:D.length+1=(D++[x0]).length:=(A8 ..).symm
  rw[e1]
  refine zg ?_
  exact⟨6-(i+1),AA,i+1,As,D++[x0],AA,rfl,by rw[A8];omega,sE,hl⟩
 refine zg ?_
 have UF:CZ S3 (.slice av D.length D.length) D:=Am.ls (f:=ic) (fun _=>rfl) (hl.gr _ Al)
 refine zc hl rfl (AOS av D.length D AA (hl.AD.3 hF) UF) ?_;rintro v S6 AM ⟨ap,cp,C,rfl,hC,hR,hCl⟩ hl
 have hl:=AE.shrink hl (List.Sublist.refl _) (gs':=[]) (Us:=[S]) (fun g hg=>(List.not_mem_nil hg).elim) (fun T hT=>hT)
 have hl:=hl.mark
 refine aL hl ([.string ⟨#[]⟩,.slice none 0 0]) fun B5 S7 hl=>?_;refine sL hl 0 [.string BB,.slice ap C.length cp] fun S8 hl=>?_;refine zg ?_;refine rr rfl (A9 rfl rfl (v:=AX [.string BB,.slice none 0 0]) (by rfl)) ?_;refine aL hl ([.string ⟨#[]⟩,.slice none 0 0]) fun B6 S9 hl=>?_;refine sL hl 0 [.string BB,.slice none 0 0] fun GB hl=>?_;refine zA ?_;refine AG rfl ?_;refine zS ?_;refine Az rfl ?_
 have hl:=hl.D2 (g:=L9 none []) (.inl ⟨rfl,rfl,rfl⟩)
 refine AK (L':=[(7,.int .i64 0),(6,ptrTo B6 0),(5,ptrTo B5 0),(2,ptrTo B2 0),(0,.slice a L.length cap)]) sE ?_
 refine A2 rfl (fun m Le S'=>∃(i:Nat) (av:Option Addr) (E:List Sp),i≤14∧m=14-i∧E.length=i∧(∀y,y∈E→Tq y.x∧CW S' (.slice y.a y.x.AT.length y.c) y.x.AT)∧Af [(7,.int .i64 (i:Int)),(6,ptrTo B6 0),(5,ptrTo B5 0),(2,ptrTo B2 0),(0,.slice a L.length cap)] Le∧AE S [S6,S] S' [(B6,.cells [.string BB,.slice av E.length E.length] 24 false true []),(B5,.cells [.string BB,.slice ap C.length cp] 44 false true []),(B2,.cells [.string ⟨#[]⟩,.slice none 0 0] 24 false true [])] [L9 av E]) ?_ (m:=14) ⟨0,none,[],AA,AA,rfl,fun x hx=>(List.not_mem_nil hx).elim,sE,hl⟩
 clear hl;rintro m Le S' ⟨i,av,E,hi,rfl,hEi,hE,AH,hl⟩;refine AK AH ?_
 have hl:=hl.mark
 refine AG rfl ?_;refine AG rfl (CR hl 41 (.bool (decide ((i:Int)<(C.length:Int))&&decide ((i:Int)<14))) ?_ rfl ?_)
 ·
  refine zg ?_;refine AZ (d:=38) rfl (fun Bf=>?_) (fun Bf=>?_)
  ·
   refine zg ?_
   exact⟨rfl,bl (by rw[Bf];simp),sB,hl⟩
  refine zg ?_
  exact⟨rfl,bl (by rw[Bf];simp),sB,hl⟩
 intro Km hl
 refine zg ?_
 constructor<;>intro FT
 ·
  have AN:i<C.length:=by simp at FT;omega
  have ATI:i<14:=by simp at FT;omega
  obtain⟨s,hs⟩:=Ad AN
  have hsR:=hR s (BV hs)
  obtain⟨b3,o3,H3,ha,_,AQ,Aa⟩:=hC.elem hs
  refine Ar rfl ?_;refine zg ?_;refine mn hl 17 rfl rfl rfl rfl rfl Tryz.underlying42 rfl (c:=s.cells) AB rfl ?_;intro ot Ko hl
  obtain⟨a8,rfl⟩:∃x,ot= .slice x 1 1:=Am.C5 (hl.gr _ Al)
  have hl:AE S [S',S6,S] Ko [(B6,.cells [.string BB,.slice av E.length E.length] 24 false true []),(B5,.cells [.string BB,.slice ap C.length cp] 44 false true []),(B2,.cells [.string ⟨#[]⟩,.slice none 0 0] 24 false true [])] [gG a8 [s],L9 av E]:=by
   show AE S _ Ko _ [⟨.slice a8 1 1,55,17,s.cells++[],1⟩,_]
   rw[List.append_nil]
   exact hl
  refine rr rfl (A9 rfl rfl (v:=AX [.slice a8 1 1,.bool false]) (by rfl)) ?_;refine aL hl [.slice none 0 0,.bool false] fun B8 Y1 hl=>?_;refine sL hl 0 [.slice a8 1 1,.bool false] fun Vz hl=>?_;refine zg ?_
  refine zc hl rfl (AOT a cap L (i+1) (hv.move (hl.since 2 rfl))) ?_;rintro v qI AM ⟨k,rfl⟩ hl
  refine rr rfl (Ao rfl rfl rfl rfl) ?_
  refine zc hl rfl (YS _ 65536 AA AA) ?_;rintro v S16 AM rfl hl
  obtain⟨n,hn⟩:∃n,n=Jh (IntKind.i64.wrap (k.tdiv 64)) 65536:=⟨_,rfl⟩
  have hm:=bj (IntKind.i64.wrap (k.tdiv 64)) (n:=65536) AA
  rw[←hn]at hm ⊢
  have r5:=IV (a:=n) (b:=5) AA hm.1
  have r7:=IV (a:=n) (b:=7) AA hm.1
  have q5:=Hn (a:=n) (b:=5) AA hm.1
  have r53:=IV (a:=n.tdiv 5) (b:=3) AA q5.1
  refine zA ?_
  refine AG rfl (Ex (fun Le Sx=>∃(a8:Option Addr) (R:List Sg),(R= [s]∨∃val:Int,(3≤val∧val≤5)∧s.kind=1∧s≠JC s val∧R= [s,JC s val])∧Af [(9,.int .i64 n),(8,ptrTo B8 0),(7,.int .i64 (i:Int)),(6,ptrTo B6 0),(5,ptrTo B5 0),(2,ptrTo B2 0),(0,.slice a L.length cap)] Le∧AE S [S',S6,S] Sx [(B8,.cells [.slice a8 R.length R.length,.bool false] 49 false true []),(B6,.cells [.string BB,.slice av E.length E.length] 24 false true []),(B5,.cells [.string BB,.slice ap C.length cp] 44 false true []),(B2,.cells [.string ⟨#[]⟩,.slice none 0 0] 24 false true [])] [gG a8 R,L9 av E]) ?_ ?_)
  ·
   refine AG rfl (CR hl 68 (.bool (s.kind==1&&n.tmod 5==0)) ?_ rfl ?_)
   ·
    refine zg ?_;refine AZ (d:=64) rfl (fun EV=>?_) (fun EV=>?_)
    ·
     refine zg ?_
     exact⟨rfl,bl (by rw[EV];simp),sB,hl⟩
    refine zg ?_
    exact⟨rfl,bl (by rw[EV];simp),sB,hl⟩
   intro eU hl
   refine zg ?_
   constructor<;>intro Gd
   ·
    have AM:s.kind=1:=by simp at Gd;exact Gd.1
    refine zg ?_;refine aL hl [.int .i64 0,.int .i64 0,.int .i64 0,.int .i64 0,.bool false,.int .i64 0,.bool false,.bool false,.int .i64 0,.int .i64 0,.int .i64 0,.int .i64 0,.bool false,.int .i64 0,.int .i64 0,.int .i64 0,.int .i64 0] fun Hv NC hl=>?_;refine sL hl 0 s.cells fun qJ hl=>?_;refine zg ?_;refine sL hl 0 ((JC s (3+(n.tdiv 5).tmod 3)).cells) fun Y2 hl=>?_
    obtain⟨val,Ub⟩:∃val,val=3+(n.tdiv 5).tmod 3:=⟨_,rfl⟩
    rw[←Ub]at hl ⊢
    refine zg ?_;refine BC (idx:=[0,1,2,3,4,5,6]) rfl AB AB ?_;refine zg ?_;refine pr rfl (Ao rfl rfl rfl (Uy _ _ (JC s val) s)) ?_;refine zg ?_
    constructor<;>intro UD
    ·
     refine zg ?_;refine dL hl ((JC s val).cells) Tryz.underlying42 fun B89 Y3 AHJ hl=>?_;refine DZ hl 0 rfl rfl (by simp;exact(show ¬(55:Nat)=49 by decide)) rfl rfl rfl rfl rfl rfl rfl Tryz.underlying42 Tryz.underlying42 rfl rfl AB (Cj (n:=1) (cap:=1) (new:=(JC s val).cells) AHJ rfl) rfl rfl AB (by show 1+1≤Ae;unfold Ae;omega) ?_;intro v90 V0 hl
     obtain⟨a9,rfl⟩:∃x,v90= .slice x 2 2:=Am.C5 (hl.gr _ Al)
     have hl:AE S [S',S6,S] V0 [(Hv,.cells (JC s val).cells 55 false true []),(B8,.cells [.slice a8 1 1,.bool false] 49 false true []),(B6,.cells [.string BB,.slice av E.length E.length] 24 false true []),(B5,.cells [.string BB,.slice ap C.length cp] 44 false true []),(B2,.cells [.string ⟨#[]⟩,.slice none 0 0] 24 false true [])] [gG a9 [s,JC s val],L9 av E]:=by
      show AE S _ V0 _ [⟨.slice a9 2 2,55,17,s.cells++((JC s val).cells++[]),2⟩,_]
      rw[List.append_nil,←List.append_nil s.cells]
      exact hl
     refine zg ?_;refine sL hl 1 [.slice a9 2 2,.bool false] fun qK hl=>?_;refine zg ?_
     exact⟨rfl,a9,[s,JC s val],.inr ⟨val,AA,AM,fun e=>by simp[←e]at UD,rfl⟩,sE,hl.tail⟩
    refine Ar rfl ?_
    exact⟨rfl,a8,[s],.inl rfl,sE,hl.tail⟩
   refine Ar rfl ?_
   exact⟨rfl,a8,[s],.inl rfl,sE,hl⟩
  clear hl;rintro Le eU ⟨a8,R,hRR,AH,hl⟩;refine AK AH ?_
  refine zA ?_;refine AG rfl (Ex (fun Le Sx=>∃bb:Bool,Af [(8,ptrTo B8 0),(7,.int .i64 (i:Int)),(6,ptrTo B6 0),(5,ptrTo B5 0),(2,ptrTo B2 0),(0,.slice a L.length cap)] Le∧AE S [S',S6,S] Sx [(B8,.cells [.slice a8 R.length R.length,.bool bb] 49 false true []),(B6,.cells [.string BB,.slice av E.length E.length] 24 false true []),(B5,.cells [.string BB,.slice ap C.length cp] 44 false true []),(B2,.cells [.string ⟨#[]⟩,.slice none 0 0] 24 false true [])] [gG a8 R,L9 av E]) ?_ ?_)
  ·
   refine zg ?_;refine AZ (d:=99) rfl (fun Qu=>?_) (fun Qu=>?_)
   ·
    refine zg ?_;refine sL hl 0 [.slice a8 R.length R.length,.bool (n.tmod 7==1)] fun NC hl=>?_;refine zg ?_
    exact⟨rfl,_,sE,hl⟩
   refine zg ?_;refine sL hl 0 [.slice a8 R.length R.length,.bool false] fun NC hl=>?_;refine zg ?_
   exact⟨rfl,_,sE,hl⟩
  clear hl;rintro Le NC ⟨bb,AH,hl⟩;refine AK AH ?_
  refine zg ?_
  have MD:CW NC (.slice a8 R.length R.length) R:=Am.ls (f:=Sg.cells) (fun _=>rfl) (hl.gr _ Al)
  have hl:=hl.mark
  have hl:AE S [NC,S',S6,S] NC [(B6,.cells [.string BB,.slice av E.length E.length] 24 false true []),(B5,.cells [.string BB,.slice ap C.length cp] 44 false true []),(B2,.cells [.string ⟨#[]⟩,.slice none 0 0] 24 false true [])] [L9 av E]:=AE.shrink hl (List.sublist_cons_self _ _) (fun g hg=>BQ hg) (fun T hT=>hT)
  obtain⟨y,hy⟩:∃y:Sp,y=⟨a8,R.length,⟨R,bb⟩⟩:=⟨_,rfl⟩
  have FI:[Value.slice a8 R.length R.length,.bool bb]=y.cells:=by rw[hy];rfl
  rw[FI]
  refine Ry hl rfl rfl rfl rfl rfl Tryz.underlying22 rfl (c:=y.cells) (by rw[←FI];kernel_rfl) ?_;intro AS2 qJ AGs hl;refine DZ hl 0 rfl rfl (by simp) rfl rfl rfl rfl rfl rfl rfl Tryz.underlying22 Tryz.underlying22 rfl rfl AB (Cj (n:=1) (cap:=1) (new:=y.cells) AGs rfl) rfl rfl AB (by show E.length+1≤Ae;unfold Ae;omega) ?_;intro ASS Y2 hl
  obtain⟨As,rfl⟩:∃x,ASS= .slice x (E.length+1) (E.length+1):=Am.C5 (hl.gr _ Al)
  have hl:AE S [NC,S',S6,S] Y2 _ [L9 As (E++[y])]:=AFy hl
  refine zg ?_;refine sL hl 0 [.string BB,.slice As (E.length+1) (E.length+1)] fun Y3 hl=>?_;refine zg ?_
  refine⟨14-(i+1),AA,i+1,As,E++[y],AA,rfl,by rw[A8];omega,fun z hz=>?_,sE,by rw[A8];exact hl.marks (Us:=[S6,S]) (fun T hT=>BQ (BQ hT))⟩
  rcases List.mem_append.1 hz with h|h
  ·exact⟨(hE z h).1,(hE z h).2.move (hl.since 1 rfl)⟩
  rw[List.mem_singleton.1 h,hy]
  exact⟨⟨s,hsR,hRR⟩,MD.move (hl.since 0 rfl)⟩
 refine zg ?_
 have LG:=AOq (Am.ls (f:=Sp.cells) (fun _=>rfl) (hl.gr _ Al)) (fun y hy=>(hE y hy).2.move (hl.since 0 rfl))
 have hl:=hl.mark
 refine sL hl 2 [.string BB,.slice av E.length E.length] fun Ko hl=>?_;refine zg ?_
 exact BA (Bm rfl (lN (z:=2) (hl.get 2 rfl) rfl) rfl) ⟨hl.AD,av,E.map Sp.x,by rw[D1];rfl,by rw[D1];exact LG.move (hl.since 0 rfl),fun x hx=>by
  obtain⟨y,hy,rfl⟩:=List.mem_map.1 hx
  exact(hE y hy).1,by rw[D1];omega⟩
end Go.Proofs.YtmfphenhpkgidaaGreatDoor
namespace Go.Proofs.YtmfphenhpkgidaaGreatDoor
open Go.Cm Go
set_option maxRecDepth 100000
variable{S:St}
def Vd:List AP→List Nat→Prop
 | [],[]=>True
 |x::L,c::cs=>c<A6 x∧Vd L cs
 |_,_=>False
def FO:List AP→List Nat→Nat
 |_::L,c::cs=>c*BR L+FO L cs
 |_,_=>0
theorem dx:∀{L:List AP} {V:List Nat},Vd L V→FO L V<BR L
 | [],[],_=>Nat.one_pos
 | [],_::_,h=>h.elim
 |_::_,[],h=>h.elim
 |x::L,c::cs,h=>by
  have h1:=dx h.2
  have h2:(c+1)*BR L≤A6 x*BR L:=Nat.mul_le_mul_right _ h.1
  rw[Nat.add_mul,Nat.one_mul]at h2
  show c*BR L+FO L cs<BR L*A6 x
  rw[Nat.mul_comm (BR L)]
  omega
theorem sS:∀{L:List AP} {V:List Nat} (q:Nat),Vd L V→dg L (q*BR L+FO L V)=(V,q)
 | [],[],q,_=>by show(([]:List Nat),q*1+0)=_;rw[Nat.mul_one,Nat.add_zero]
 | [],_::_,_,h=>h.elim
 |_::_,[],_,h=>h.elim
 |x::L,c::cs,q,h=>by
  have hs:0<A6 x:=Nat.lt_of_le_of_lt (Nat.zero_le _) h.1
  have e:q*BR (x::L)+FO (x::L) (c::cs)=(A6 x*q+c)*BR L+FO L cs:=by
   show q*(BR L*A6 x)+(c*BR L+FO L cs)=_
   rw[Nat.add_mul,Nat.mul_comm (BR L),←Nat.mul_assoc,Nat.mul_comm q,Nat.add_assoc]
  have ih:=sS (L:=L) (V:=cs) (A6 x*q+c) h.2
  rw[e]
  show(((dg L _).2%A6 x)::(dg L _).1,(dg L _).2/A6 x)=_
  rw[ih]
  show(((A6 x*q+c)%A6 x)::cs,(A6 x*q+c)/A6 x)=_
  rw[Nat.mul_add_mod,Nat.mod_eq_of_lt h.1,Nat.mul_add_div hs,Nat.div_eq_of_lt h.1,Nat.add_zero]
theorem sU:∀{L:List AP} (n:Nat),(∀x,x∈L→0<A6 x)→Vd L (dg L n).1∧n=(dg L n).2*BR L+FO L (dg L n).1
 | [],n,_=>⟨trivial,by show n=n*1+0;omega⟩
 |x::L,n,hp=>by
  obtain⟨h1,h2⟩:=sU (L:=L) n fun y hy=>hp y (BQ hy)
  have hs:=hp x Al
  refine⟨⟨Nat.mod_lt _ hs,h1⟩,?_⟩
  show n=(dg L n).2/A6 x*(BR L*A6 x)+((dg L n).2%A6 x*BR L+FO L (dg L n).1)
  have e:=Nat.div_add_mod (dg L n).2 (A6 x)
  have e2:(dg L n).2/A6 x*(BR L*A6 x)+(dg L n).2%A6 x*BR L=(dg L n).2*BR L:=by
   rw[Nat.mul_comm (BR L),←Nat.mul_assoc,←Nat.add_mul,Nat.mul_comm _ (A6 x),e]
  omega
def toI(V:List Nat):List Int:=V.map fun(c:Nat)=>(c:Int)
theorem vg:∀{C:List Sg} {y:Sg} (m:Nat),y∈C→∃k,k<C.length∧nth C k=some y∧G4 C y m=((m+k:Nat):Int)∧∀j z,j<k→nth C j=some z→z≠y
 | [],y,m,h=>(List.not_mem_nil h).elim
 |x::C,y,m,h=>by
  by_cases e:y=x
  ·subst e
   exact⟨0,by simp,rfl,by unfold G4;rw[decide_eq_true rfl];rfl,fun j z hj=>absurd hj (Nat.not_lt_zero _)⟩
  obtain⟨k,h1,h2,h3,h4⟩:=vg (C:=C) (y:=y) (m+1) ((List.mem_cons.1 h).resolve_left e)
  refine⟨k+1,by simp;omega,h2,?_,fun j z hj hz=>?_⟩
  ·unfold G4
   rw[decide_eq_false e,cond_false,h3]
   congr 1
   omega
  cases j with
  |zero=>cases hz;exact fun e2=>e e2.symm
  |succ j=>exact h4 j z AA hz
theorem mV(x:AP):FJ x x.AT.length= []:=by
 unfold FJ
 rw[MQ (Nat.le_refl _)]
theorem cG{x:AP}{k:Nat}{y:Sg}(h:nth x.AT k=some y):FJ x k= [y]:=by
 unfold FJ
 rw[h]
theorem Rm(x:AP)(L:List AP)(c:Nat)(cs:List Nat):mk (x::L) (c::cs)=FJ x c++mk L cs:=rfl
theorem digit{x:AP}{c:Nat}(h:c<A6 x):(∃y,nth x.AT c=some y∧FJ x c= [y]∧c<x.AT.length)∨(c=x.AT.length∧x.blank=true∧FJ x c= []):=by
 rcases Nat.lt_or_ge c x.AT.length with h1|h1
 ·obtain⟨y,hy⟩:=Ad h1
  exact .inl ⟨y,hy,cG hy,h1⟩
 have hs:A6 x=x.AT.length+bif x.blank then 1 else 0:=rfl
 cases hb:x.blank with
 |true =>
  rw[hb]at hs
  have hs:A6 x=x.AT.length+1:=hs
  have e:c=x.AT.length:=by omega
  subst e
  exact .inr ⟨rfl,rfl,mV x⟩
 |false =>
  rw[hb]at hs
  have hs:A6 x=x.AT.length+0:=hs
  omega
theorem fK:∀{L:List AP} {V:List Nat} {C:List Sg},Vd L V→mk L V=C→FQ L C=true
 | [],[],C,_,h=>by
  subst h
  rfl
 | [],_::_,_,h,_=>h.elim
 |_::_,[],_,h,_=>h.elim
 |x::L,c::V,C,h,e=>by
  rw[Rm]at e
  have ih:=fK (C:=mk L V) h.2 rfl
  rcases digit h.1 with ⟨y,h1,h2,_⟩|⟨h1,h2,h3⟩
  ·rw[h2]at e
   subst e
   show((x.blank&&FQ L (y::mk L V))||(FQ L (mk L V)&&decide (y∈x.AT)))=true
   rw[ih,decide_eq_true (BV h1)]
   simp
  rw[h3]at e
  subst e
  show FQ (x::L) (mk L V)=true
  cases hm:mk L V with
  |nil =>
   rw[hm]at ih
   show(x.blank&&FQ L [])=true
   rw[h2,ih]
   rfl
  |cons y l =>
   rw[hm]at ih
   show((x.blank&&FQ L (y::l))||(FQ L l&&decide (y∈x.AT)))=true
   rw[h2,ih]
   rfl
theorem w7{x:AP}(h:x.blank=true):x.AT.length<A6 x:=by
 unfold A6
 rw[h]
 exact Nat.lt_succ_self _
theorem AIV{x:AP}{k:Nat}(h:k<x.AT.length):k<A6 x:=by
 unfold A6
 omega
theorem Zc:∀{L:List AP} {C:List Sg},FQ L C=true→∃V,Vd L V∧toI V=Di L C∧mk L V=C∧∀W,Vd L W→mk L W=C→FO L V≤FO L W
 | [],[],_=>⟨[],trivial,rfl,rfl,fun W _ _=>Nat.zero_le _⟩
 | [],_::_,h=>by cases h
 |x::L,[],h=>by
  have h:(x.blank&&FQ L [])=true:=h
  rw[Bool.and_eq_true]at h
  obtain⟨V,h1,h2,h3,h4⟩:=Zc h.2
  refine⟨x.AT.length::V,⟨w7 h.1,h1⟩,?_,?_,fun W hW hm=>?_⟩
  ·show(x.AT.length:Int)::toI V=(x.AT.length:Int)::Di L []
   rw[h2]
  ·rw[Rm,mV,h3]
   rfl
  cases W with
  |nil=>exact hW.elim
  |cons c W =>
   rw[Rm]at hm
   rcases digit hW.1 with ⟨y,_,k2,_⟩|⟨k1,_,k3⟩
   ·rw[k2]at hm;cases hm
   rw[k3]at hm
   have:=h4 W hW.2 hm
   show x.AT.length*BR L+FO L V≤c*BR L+FO L W
   rw[k1]
   omega
 |x::L,y::l,h=>by
  have h:((x.blank&&FQ L (y::l))||(FQ L l&&decide (y∈x.AT)))=true:=h
  cases hc:(FQ L l&&decide (y∈x.AT))with
  |true =>
   have Fj:=hc
   rw[Bool.and_eq_true,decide_eq_true_iff]at Fj
   obtain⟨V,h1,h2,h3,h4⟩:=Zc Fj.1
   obtain⟨k,k1,k2,k3,k4⟩:=vg 0 Fj.2
   refine⟨k::V,⟨AIV k1,h1⟩,?_,?_,fun W hW hm=>?_⟩
   ·rw[Zb,hc,cond_true,k3,←h2,Nat.zero_add]
    rfl
   ·rw[Rm,cG k2,h3]
    rfl
   cases W with
   |nil=>exact hW.elim
   |cons c W =>
    rw[Rm]at hm
    have AN:=dx h1
    show k*BR L+FO L V≤c*BR L+FO L W
    by_cases Cz:c=k
    ·subst Cz
     rw[cG k2]at hm
     have:=h4 W hW.2 (List.cons.inj hm).2
     omega
    have uj:k<c:=by
     rcases digit hW.1 with ⟨z,q1,q2,_⟩|⟨q1,_,_⟩
     ·rw[q2]at hm
      have hz:z=y:=(List.cons.inj hm).1
      rcases Nat.lt_or_ge c k with h5|h5
      ·exact absurd hz (k4 c z h5 q1)
      omega
     omega
    have h6:(k+1)*BR L≤c*BR L:=Nat.mul_le_mul_right _ uj
    rw[Nat.add_mul,Nat.one_mul]at h6
    omega
  |false =>
   rw[hc,Bool.or_false,Bool.and_eq_true]at h
   obtain⟨V,h1,h2,h3,h4⟩:=Zc h.2
   refine⟨x.AT.length::V,⟨w7 h.1,h1⟩,?_,?_,fun W hW hm=>?_⟩
   ·rw[Zb,hc,cond_false,←h2]
    rfl
   ·rw[Rm,mV,h3]
    rfl
   cases W with
   |nil=>exact hW.elim
   |cons c W =>
    rw[Rm]at hm
    rcases digit hW.1 with ⟨z,q1,q2,_⟩|⟨k1,_,k3⟩
    ·rw[q2]at hm
     obtain⟨e1,e2⟩:=List.cons.inj hm
     subst e1
     have:=fK hW.2 e2
     rw[this,decide_eq_true (BV q1)]at hc
     cases hc
    rw[k3]at hm
    have:=h4 W hW.2 hm
    show x.AT.length*BR L+FO L V≤c*BR L+FO L W
    rw[k1]
    omega
def QV(L:List AP)(C:List Sg)(k:Nat):Prop:=mk L (dg L k).1=C∧∀j,j<k→mk L (dg L j).1≠C
theorem mZ{nl:List UInt8}{L:List AP}:∀{n k:Nat},k<n→Jl nl (mk L (dg L k).1)=true→mk L (dg L k).1∈Eo nl L n
 |0,k,h,_=>absurd h (Nat.not_lt_zero _)
 |n+1,k,h,ho=>by
  show _∈Gq nl (Eo nl L n) (mk L (dg L n).1)
  unfold Gq
  rcases Nat.lt_or_ge k n with h1|h1
  ·have:=mZ (n:=n) h1 ho
   cases Jl nl (mk L (dg L n).1)&&!decide (mk L (dg L n).1∈Eo nl L n)with
   |true=>exact List.mem_append_left _ this
   |false=>exact this
  have e:k=n:=by omega
  subst e
  by_cases hm:mk L (dg L k).1∈Eo nl L k
  ·rw[ho,decide_eq_true hm]
   exact hm
  rw[ho,decide_eq_false hm]
  exact List.mem_append_right _ (List.mem_singleton.2 rfl)
theorem VA{nl:List UInt8}{L:List AP}:∀{n i:Nat} {C:List Sg},nth (Eo nl L n) i=some C→Jl nl C=true∧∃k,k<n∧QV L C k
 |0,i,C,h=>by cases h
 |n+1,i,C,h=>by
  have h:nth (Gq nl (Eo nl L n) (mk L (dg L n).1)) i=some C:=h
  unfold Gq at h
  cases hc:(Jl nl (mk L (dg L n).1)&&!decide (mk L (dg L n).1∈Eo nl L n))with
  |false =>
   rw[hc]at h
   obtain⟨h1,k,h2,h3⟩:=VA (n:=n) h
   exact⟨h1,k,AA,h3⟩
  |true =>
   rw[hc]at h
   rw[Bool.and_eq_true]at hc
   rcases U0 h with h|⟨_,rfl⟩
   ·obtain⟨h1,k,h2,h3⟩:=VA (n:=n) h
    exact⟨h1,k,AA,h3⟩
   refine⟨hc.1,n,Nat.lt_succ_self _,rfl,fun j hj e=>?_⟩
   have hn:mk L (dg L n).1∉Eo nl L n:=by simpa using hc.2
   exact hn (e▸mZ hj (by rw[e];exact hc.1))
theorem fR{L:List AP}{C:List Sg}{k:Nat}(hp:∀x,x∈L→0<A6 x)(hk:k<BR L)(h:QV L C k):FQ L C=true∧Di L C=toI (dg L k).1∧Vd L (dg L k).1∧FO L (dg L k).1=k∧mk L (dg L k).1=C:=by
 obtain⟨hv,he⟩:=sU k hp
 have hq:(dg L k).2=0:=by
  rcases Nat.eq_zero_or_pos (dg L k).2 with h0|h0
  ·exact h0
  have:BR L≤(dg L k).2*BR L:=Nat.le_mul_of_pos_left _ h0
  omega
 rw[hq,Nat.zero_mul,Nat.zero_add]at he
 have hc:=fK hv h.1
 obtain⟨V,h1,h2,h3,h4⟩:=Zc hc
 have h5:=h4 _ hv h.1
 have h6:=sS (L:=L) (V:=V) 0 h1
 rw[Nat.zero_mul,Nat.zero_add]at h6
 have h7:¬FO L V<k:=fun AN=>h.2 _ AN (by rw[h6];exact h3)
 have h8:FO L V=k:=by omega
 rw[h8]at h6
 refine⟨hc,?_,hv,he.symm,h.1⟩
 rw[h6,←h2]
end Go.Proofs.YtmfphenhpkgidaaGreatDoor
namespace Go.Proofs.YtmfphenhpkgidaaGreatDoor
open Go.Cm Go
set_option maxRecDepth 100000
variable{S:St}
end Go.Proofs.YtmfphenhpkgidaaGreatDoor
namespace Go.Proofs.YtmfphenhpkgidaaGreatDoor
open Go.Cm Go
set_option maxRecDepth 100000
variable{S:St}
theorem AI7:((List.range 4).all fun v=>(List.range 17).all fun p=>one (nS ((v:Int)+3) ((p:Int)-4))==0)=true:=by kernel_rfl
theorem AKB:((List.range 4).all fun v=>one (rS ((v:Int)+3))==0)=true:=by kernel_rfl
theorem yI{v p:Int}(h:3≤v∧v≤6)(k: -4≤p∧p≤12):one (nS v p)=0:=by
 have h1:=List.all_eq_true.1 (List.all_eq_true.1 AI7 (v-3).toNat (List.mem_range.2 AA)) (p+4).toNat (List.mem_range.2 AA)
 have e1:(((v-3).toNat:Nat):Int)+3=v:=by omega
 have e2:(((p+4).toNat:Nat):Int)-4=p:=by omega
 rw[e1,e2]at h1
 exact eq_of_beq h1
theorem AJH{v:Int}(h:3≤v∧v≤6):one (rS v)=0:=by
 have h1:=List.all_eq_true.1 AKB (v-3).toNat (List.mem_range.2 AA)
 have e1:(((v-3).toNat:Nat):Int)+3=v:=by omega
 rw[e1]at h1
 exact eq_of_beq h1
theorem GX.valid{s:Sg}(h:GX s):one s=0:=by
 rcases h with rfl|⟨st,h⟩|⟨v,p,h1,h2,rfl⟩|⟨v,h1,rfl⟩|rfl
 ·kernel_rfl
 ·cases st<;>rcases h with rfl|rfl|rfl<;>kernel_rfl
 ·exact yI h1 h2
 ·exact AJH h1
 kernel_rfl
theorem GX.sv{s:Sg}{w:Int}(h:GX s)(hk:s.kind=1)(hw:3≤w∧w≤5):one (JC s w)=0:=by
 rcases h with rfl|⟨st,h⟩|⟨v,p,h1,h2,rfl⟩|⟨v,h1,rfl⟩|rfl
 ·cases hk
 ·rcases h with rfl|rfl|rfl<;>cases hk
 ·exact yI (v:=w) (p:=p) AA h2
 ·cases hk
 cases hk
theorem Tq.ok{x:AP}(h:Tq x):G8 x=false∧Fp [] x.AT=0∧0<A6 x∧x.AT.length≤2:=by
 obtain⟨s,hs,hx⟩:=h
 have h1:=GX.valid hs
 have e1:(one s !=0)=false:=by rw[h1];rfl
 have hz:∀n:Nat,x.AT.length=n→1≤n→n≤2→G8 x=false∧0<A6 x:=fun n hn h2 h3=>by
  unfold G8 EM A6
  rw[hn]
  cases x.blank<;>simp<;>omega
 rcases hx with hx|⟨w,hw,hk,Ac,hx⟩
 ·obtain⟨q1,q2⟩:=hz 1 (by rw[hx];rfl) AA AA
  refine⟨q1,?_,q2,by rw[hx];simp⟩
  rw[hx,YO e1 (decide_eq_false List.not_mem_nil)]
  rfl
 obtain⟨q1,q2⟩:=hz 2 (by rw[hx];rfl) AA AA
 refine⟨q1,?_,q2,by rw[hx];simp⟩
 have e2:(one (JC s w) !=0)=false:=by rw[GX.sv hs hk hw];rfl
 rw[hx,YO e1 (decide_eq_false List.not_mem_nil),YO (pre:=[]++[s]) e2 (decide_eq_false fun hm=>Ac (List.mem_singleton.1 hm).symm)]
 rfl
theorem AAm:∀{E:List AP} {i:Nat},(∀x,x∈E→Tq x)→(F9 E i).1=0
 | [],_,_=>rfl
 |x::E,i,h=>by
  obtain⟨h1,h2,_⟩:=(h x Al).ok
  rw[oI h1 h2]
  exact AAm fun y hy=>h y (BQ hy)
theorem AOm{E:List AP}(h:∀x,x∈E→Tq x)(hl:E.length≤14):(DF BB.data.toList E).1=0:=by
 unfold DF
 rw[show(!HP BB.data.toList)=false by kernel_rfl,show decide ((E.length:Int)>400)=false from decide_eq_false AA]
 exact AAm h
theorem AOn{E:List AP}(h:(DF BB.data.toList E).1=0)(h2:(Dw BB.data.toList E).2=0∨(Dw BB.data.toList E).2≠15):(Dw BB.data.toList E).2=0:=by
 unfold Dw at h2 ⊢
 rw[show((DF BB.data.toList E).1 !=0)=false by rw[h];rfl]at h2 ⊢
 cases hp:F7 1 E with
 |some n=>rfl
 |none =>
  rw[hp]at h2
  rcases h2 with h2|h2
  ·cases h2
  exact absurd rfl h2
theorem AEh{P:Program}{K:BX}{f:FuncId}{args:List Value}{S:St}{v:Value}(h:K.call f args S=some v):CC P K f args S fun w S'=>AL S S'∧w=v:=⟨0,v,S,by unfold Hb;rw[h],AL.refl S,rfl⟩
theorem ANS{nm:List UInt8}{L:List AP}{Ji:Int}(h:Mb nm L Ji=true):nm.length≤100:=by
 unfold Mb Lu at h
 simp at h
 omega
theorem AJd{S':St}{nm:ByteArray}{L:List AP}{v:Value}(h:eT S' nm L v):∃a c P,v=Aw [.slice a P.length c,.int .i64 (Dw nm.data.toList L).2]∧eS nm S' (.slice a P.length c) P∧(∀x,x∈P→x.Ok S')∧P.map Pr.C=(if(Dw nm.data.toList L).2=0 then Eo nm.data.toList L (BR L)else [])∧P.length≤4096∧∀x,x∈P→x.C.length≤1000:=by
 rcases h with ⟨h0,rfl⟩|⟨h0,av,P,rfl,h1,h2,h3,h4,h5⟩
 ·exact⟨none,0,[],rfl,A0.nil,fun x hx=>(List.not_mem_nil hx).elim,by rw[if_neg h0];rfl,by simp,fun x hx=>(List.not_mem_nil hx).elim⟩
 exact⟨av,P.length,P,by rw[h0],h1,h2,by rw[if_pos h0];exact h3,h4,h5⟩
set_option maxHeartbeats 4000000 in
theorem AOU(nm:ByteArray)(a:Option Addr)(cap:Nat)(L:List AP)(hF:BW S)(hv:EG S (.slice a L.length cap) L):CC Tryz.prog KK 6 [AX [.string nm,.slice a L.length cap]] S (fun v S'=>AL S S'∧(∃B:Bool,v= .bool B∧(B=true→Mb nm.data.toList L 24=true∧((Dw nm.data.toList L).2=0∨(Dw nm.data.toList L).2≠15)))):=by
 refine ce 49 Tryz.func6 fun hl=>?_;refine zg ?_;refine bL hl fun B1 S1 hl=>?_;refine zg ?_
 refine zc hl rfl (AN' nm a cap L 24 (hv.move (hl.since 0 rfl))) ?_;rintro v S2 AM rfl hl
 refine rr rfl (BY rfl rfl rfl) ?_;refine zg ?_
 constructor<;>intro Cf
 ·
  refine zg ?_
  exact(z1 rfl ⟨hl.AD,_,rfl,nofun⟩)
 have UY:Mb nm.data.toList L 24=true:=by simpa using Cf
 obtain⟨hn,hs⟩:=ANR UY
 have Ch:=ANS UY
 have Cc:∀x,x∈L→x.AT.length≤1000:=fun x hx=>Nat.le_trans (hs x hx) AA
 refine zg ?_
 refine zc hl rfl (AAG nm a cap L AA AA Cc (hv.move (hl.since 0 rfl))) ?_;rintro v S3 AM rfl hl
 refine zg ?_
 constructor<;>intro DN
 ·
  refine zg ?_
  exact(z1 rfl ⟨hl.AD,_,rfl,fun hB=>⟨UY,.inr (by simpa using hB)⟩⟩)
 refine zg ?_
 constructor<;>intro DG
 ·
  refine zg ?_
  exact(z1 rfl ⟨hl.AD,_,rfl,fun _=>⟨UY,.inl (by simpa using DN)⟩⟩)
 refine zg ?_
 refine zc hl rfl (ANi nm a cap L AA AA Cc (hl.AD.3 hF) (hv.move (hl.since 0 rfl))) ?_;rintro v S4 AM hR hl
 obtain⟨ap,cp,P,rfl,hP,DC,_,UJ,H8⟩:=AJd hR
 have hl:=hl.mark
 refine zA ?_;refine AG rfl ?_;refine zS ?_;refine Az rfl ?_;refine AK (L':=[(7,.int .i64 0),(5,.slice ap P.length cp),(2,.bool false)]) sE ?_
 refine A2 rfl (fun m Le S'=>∃i:Nat,i≤P.length∧m=P.length-i∧Af [(7,.int .i64 (i:Int)),(5,.slice ap P.length cp),(2,.bool false)] Le∧AE S [S4,S] S' [(B1,.cells [.string nm,.slice a L.length cap] 24 false true [])] []) ?_ (m:=P.length) ⟨0,AA,AA,sE,hl⟩
 clear hl;rintro m Le S' ⟨i,hi,rfl,AH,hl⟩;refine AK AH ?_
 refine zg ?_
 constructor<;>intro E1
 ·
  have AN:i<P.length:=dT E1
  obtain⟨y,hy⟩:=Ad AN
  obtain⟨b1,o1,BF,ha,_,AQ,Aa⟩:=(hP.move (hl.since 0 rfl)).elem hy
  refine zg ?_
  refine zc hl rfl (AOB nm y.a y.c y.C AA (H8 y (BV hy)) (hl.AD.3 hF) ((DC y (BV hy)).move (hl.since 0 rfl))) ?_;rintro v S5 AM ⟨c,e,rfl⟩ hl
  refine zA ?_;refine AG rfl (HW hl 48 Value.bool ?_ rfl ?_)
  ·
   refine zg ?_;refine AZ (d:=45) rfl (fun DB=>?_) (fun DB=>?_)
   ·
    refine zg ?_
    exact⟨rfl,⟨_,bl rfl⟩,sB,hl⟩
   refine zg ?_
   exact⟨rfl,⟨_,bl rfl⟩,sB,hl⟩
  clear hl;intro q48 S6 hl
  refine zg ?_
  constructor<;>intro EK
  ·
   refine zg ?_
   exact AR (Ai (Bg (AR ((z1 rfl ⟨hl.AD,_,rfl,fun _=>⟨UY,.inl (by simpa using DN)⟩⟩)))))
  refine zg ?_
  exact⟨P.length-(i+1),AA,i+1,AA,rfl,sE,hl⟩
 refine zg ?_
 exact y1 rfl ⟨hl.AD,_,rfl,fun _=>⟨UY,.inl (by simpa using DN)⟩⟩
end Go.Proofs.YtmfphenhpkgidaaGreatDoor
namespace Go.Proofs.YtmfphenhpkgidaaGreatDoor
open Go.Cm Go
set_option maxRecDepth 100000
variable{S:St}
def LeS:List AP→List AP→Prop
 | [],[]=>True
 |x::L,y::M=>((∀s,s∈x.AT→s∈y.AT)∧(x.blank=true→y.blank=true))∧LeS L M
 |_,_=>False
theorem LeS.refl:∀(L:List AP),LeS L L
 | []=>trivial
 |_::L=>⟨⟨fun _ h=>h,fun h=>h⟩,LeS.refl L⟩
theorem ATj:∀{L M:List AP} {C:List Sg},LeS L M→FQ L C=true→FQ M C=true
 | [],[],_,_,h=>h
 | [],_::_,_,h,_=>h.elim
 |_::_,[],_,h,_=>h.elim
 |x::L,y::M,[],h,hc=>by
  have hc:(x.blank&&FQ L [])=true:=hc
  rw[Bool.and_eq_true]at hc
  show(y.blank&&FQ M [])=true
  rw[h.1.2 hc.1,ATj h.2 hc.2]
  rfl
 |x::L,y::M,s::C,h,hc=>by
  have hc:((x.blank&&FQ L (s::C))||(FQ L C&&decide (s∈x.AT)))=true:=hc
  show((y.blank&&FQ M (s::C))||(FQ M C&&decide (s∈y.AT)))=true
  rw[Bool.or_eq_true,Bool.and_eq_true,Bool.and_eq_true,decide_eq_true_iff]at hc
  rcases hc with ⟨h1,h2⟩|⟨h1,h2⟩
  ·rw[h.1.2 h1,ATj h.2 h2]
   rfl
  rw[ATj h.2 h1,decide_eq_true (h.1.1 s h2)]
  simp
theorem ATq:∀(C r:List Sg),(AEg C r).length≤C.length+r.length
 |C,[]=>Nat.le_refl _
 |C,t::r=>by
  rw[AEg]
  cases decide (t∈C)with
  |true =>
   have:=ATq C r
   show(AEg C r).length≤_
   rw[List.length_cons]
   omega
  |false =>
   have:=ATq (C++[t]) r
   rw[DS]at this
   show(AEg (C++[t]) r).length≤_
   rw[List.length_cons]
   simp at this
   omega
theorem AT6:∀{C r:List Sg} {t:Sg},t∈r→t∈C→(AEg C r).length+1≤C.length+r.length
 |C,[],t,h,_=>(List.not_mem_nil h).elim
 |C,u::r,t,h,hc=>by
  rw[AEg]
  by_cases hu:u∈C
  ·rw[decide_eq_true hu]
   have:=ATq C r
   show(AEg C r).length+1≤_
   rw[List.length_cons]
   omega
  rw[decide_eq_false hu]
  rcases List.mem_cons.1 h with rfl|h
  ·exact absurd hc hu
  have:=AT6 (C:=C++[u]) h (List.mem_append_left _ hc)
  rw[DS]at this
  show(AEg (C++[u]) r).length+1≤_
  rw[List.length_cons]
  simp at this
  omega
theorem ATc:∀{C r:List Sg} {t:Sg},t∈C→t∈AEg C r
 |C,[],t,h=>h
 |C,u::r,t,h=>by
  rw[AEg]
  cases decide (u∈C)with
  |true=>exact ATc h
  |false=>exact ATc (List.mem_append_left _ h)
theorem ATs:∀{C r:List Sg} {t:Sg},t∈r→t∈AEg C r
 |C,[],t,h=>(List.not_mem_nil h).elim
 |C,u::r,t,h=>by
  rw[AEg]
  by_cases hu:u∈C
  ·rw[decide_eq_true hu]
   rcases List.mem_cons.1 h with rfl|h
   ·exact ATc hu
   exact ATs h
  rw[decide_eq_false hu]
  rcases List.mem_cons.1 h with rfl|h
  ·exact ATc (List.mem_append_right _ (List.mem_singleton.2 rfl))
  exact ATs h
theorem AUC:∀{C pre:List Sg} {t:Sg},Fp pre C=0→one t=0→t∉pre→t∉C→Fp pre (C++[t])=0
 | [],pre,t,_,h1,h2,_=>by
  show Fp pre [t]=0
  rw[YO (by rw[h1];rfl) (decide_eq_false h2)]
  rfl
 |u::C,pre,t,h,h1,h2,h3=>by
  show Fp pre (u::(C++[t]))=0
  cases e1:(one u !=0)with
  |true =>
   rw[z' e1]at h
   rw[h]at e1
   cases e1
  |false =>
   cases e2:decide (u∈pre)with
   |true=>rw[z9 e1 e2]at h;cases h
   |false =>
    rw[YO e1 e2]at h ⊢
    refine AUC h h1 (fun hm=>?_) (fun hm=>h3 (BQ hm))
    rcases List.mem_append.1 hm with hm|hm
    ·exact h2 hm
    exact h3 (List.mem_singleton.1 hm▸Al)
theorem ATr:∀{C r:List Sg},Fp [] C=0→(∀t,t∈r→one t=0)→Fp [] (AEg C r)=0
 |C,[],h,_=>h
 |C,u::r,h,h1=>by
  rw[AEg]
  by_cases hu:u∈C
  ·rw[decide_eq_true hu]
   exact ATr h fun t ht=>h1 t (BQ ht)
  rw[decide_eq_false hu]
  exact ATr (AUC h (h1 u Al) List.not_mem_nil hu) fun t ht=>h1 t (BQ ht)
theorem LeS.merge:∀{L M:List AP},L.length=M.length→LeS L (List.zipWith AM5 L M)∧LeS M (List.zipWith AM5 L M)
 | [],[],_=>⟨trivial,trivial⟩
 | [],_::_,h=>by cases h
 |_::_,[],h=>by cases h
 |x::L,y::M,h=>by
  obtain⟨h1,h2⟩:=LeS.merge (L:=L) (M:=M) (by simpa using h)
  refine⟨⟨⟨fun s hs=>ATc hs,fun hb=>?_⟩,h1⟩,⟨⟨fun s hs=>ATs hs,fun hb=>?_⟩,h2⟩⟩
  ·show(x.blank||y.blank)=true
   rw[hb];rfl
  show(x.blank||y.blank)=true
  rw[hb];simp
end Go.Proofs.YtmfphenhpkgidaaGreatDoor
namespace Go.Proofs.YtmfphenhpkgidaaGreatDoor
open Go.Cm Go
set_option maxRecDepth 100000
variable{S:St}
def SbS(x y:AP):Prop:=(∀s,s∈x.AT→s∈y.AT)∧(x.blank=true→y.blank=true)∧Fp [] x.AT=0∧0<x.AT.length∧x.AT.length≤y.AT.length
def SbL:List AP→List AP→Prop
 | [],[]=>True
 |x::L,y::M=>SbS x y∧SbL L M
 |_,_=>False
theorem SbL.len:∀{L M:List AP},SbL L M→L.length=M.length
 | [],[],_=>rfl
 | [],_::_,h=>h.elim
 |_::_,[],h=>h.elim
 |_::_,_::_,h=>by rw[List.length_cons,List.length_cons,SbL.len h.2]
theorem SbL.le:∀{L M:List AP},SbL L M→LeS L M
 | [],[],_=>trivial
 | [],_::_,h=>h.elim
 |_::_,[],h=>h.elim
 |_::_,_::_,h=>⟨⟨h.1.1,h.1.2.1⟩,SbL.le h.2⟩
theorem Tq.pos{x:AP}(h:Tq x):0<x.AT.length:=by
 obtain⟨s,_,h|⟨_,_,_,_,h⟩⟩:=h<;>rw[h]<;>simp
theorem SbS.refl{x:AP}(h:Tq x):SbS x x:=⟨fun _ h=>h,fun h=>h,h.ok.2.1,h.pos,Nat.le_refl _⟩
theorem SbL.refl:∀{E:List AP},(∀x,x∈E→Tq x)→SbL E E
 | [],_=>trivial
 |x::_,h=>⟨.refl (h x Al),SbL.refl fun y hy=>h y (BQ hy)⟩
theorem SbL.set:∀{L M:List AP} {i:Nat} {x y:AP},SbL L M→nth M i=some y→SbS x y→SbL (L.set i x) M
 |_,[],_,_,_,_,h,_=>by cases h
 | [],_::_,_,_,_,h,_,_=>h.elim
 |_::_,_::_,0,_,_,h,h1,h2=>by cases h1;exact⟨h2,h.2⟩
 |_::_,_::_,i+1,_,_,h,h1,h2=>⟨h.1,SbL.set (i:=i) h.2 h1 h2⟩
theorem ATw:∀{r pre:List Sg},Fp pre r=0→∀t,t∈r→one t=0
 | [],_,_,t,h=>(List.not_mem_nil h).elim
 |u::r,pre,h,t,ht=>by
  cases e1:(one u !=0)with
  |true =>
   rw[z' e1]at h
   rw[h]at e1
   cases e1
  |false =>
   cases e2:decide (u∈pre)with
   |true=>rw[z9 e1 e2]at h;cases h
   |false =>
    rw[YO e1 e2]at h
    rcases List.mem_cons.1 ht with rfl|ht
    ·simpa using e1
    exact ATw h t ht
theorem AUV{s:Sg}(h:one s=0):Fp [] [s]=0:=by
 rw[YO (by rw[h];rfl) (decide_eq_false List.not_mem_nil)]
 rfl
theorem SbS.one{y:AP}{s:Sg}{b:Bool}(hy:Tq y)(hs:s∈y.AT)(hb:b=true→y.blank=true):SbS ⟨[s],b⟩ y :=
 ⟨fun t ht=>by rw[List.mem_singleton.1 ht];exact hs,hb,AUV (ATw hy.ok.2.1 s hs),by simp,hy.pos⟩
theorem AUD:∀{E:List AP} {i:Nat},(∀x,x∈E→G8 x=false∧Fp [] x.AT=0)→(F9 E i).1=0
 | [],_,_=>rfl
 |x::E,i,h=>by
  obtain⟨h1,h2⟩:=h x Al
  rw[oI h1 h2]
  exact AUD fun y hy=>h y (BQ hy)
theorem AT7{E:List AP}(h:∀x,x∈E→G8 x=false∧Fp [] x.AT=0)(hl:E.length≤14):(DF BB.data.toList E).1=0:=by
 unfold DF
 rw[show(!HP BB.data.toList)=false by kernel_rfl,show decide ((E.length:Int)>400)=false from decide_eq_false AA]
 exact AUD h
theorem AUE{x:AP}(h1:0<x.AT.length)(h2:EM x≤4):G8 x=false:=by
 have h3:1≤EM x:=by
  unfold EM
  cases x.blank<;>simp<;>omega
 unfold G8
 rw[decide_eq_false AA,decide_eq_false AA]
 rfl
theorem ATp{x:AP}{k:Nat}(h:x.AT.length≤k):0≤EM x∧EM x≤k+1:=by
 unfold EM
 cases x.blank<;>simp<;>omega
theorem SbL.mem:∀{L M:List AP} {x:AP},SbL L M→x∈L→∃y,y∈M∧SbS x y
 | [],_,_,_,h=>(List.not_mem_nil h).elim
 |_::_,[],_,h,_=>h.elim
 |x::L,y::M,z,h,hz=>by
  rcases List.mem_cons.1 hz with rfl|hz
  ·exact⟨y,Al,h.1⟩
  obtain⟨w,h1,h2⟩:=SbL.mem h.2 hz
  exact⟨w,BQ h1,h2⟩
theorem SbL.spot{L M:List AP}(h:SbL L M)(hM:∀x,x∈M→Tq x):∀x,x∈L→G8 x=false∧Fp [] x.AT=0∧0<A6 x∧x.AT.length≤2:=fun x hx=>by
 obtain⟨y,h1,h2,h3,h4,h5,h6⟩:=h.mem hx
 have h7:=(hM y h1).ok.2.2.2
 have h8:=(ATp (x:=x) (k:=2) AA).2
 refine⟨AUE h5 AA,h4,?_,AA⟩
 unfold A6
 omega
theorem AUW{x y:AP}(h:SbS x y):EM x≤EM y:=by
 have h1:=h.2.1
 have h2:=h.2.2.2.2
 unfold EM
 cases hx:x.blank with
 |true =>
  rw[h1 hx]
  simp
  omega
 |false=>cases y.blank<;>simp<;>omega
theorem SbL.prod:∀{L M:List AP} {n m q:Int},SbL L M→0≤n→n≤m→F7 m M=some q→∃p,F7 n L=some p
 | [],[],n,_,_,_,_,_,_=>⟨n,rfl⟩
 | [],_::_,_,_,_,h,_,_,_=>h.elim
 |_::_,[],_,_,_,h,_,_,_=>h.elim
 |x::L,y::M,n,m,q,h,h0,hn,hp=>by
  have hs:=AUW h.1
  have hx:=(ATp (x:=x) (k:=x.AT.length) (Nat.le_refl _)).1
  have h1:n*EM x≤m*EM y:=Int.mul_le_mul hn hs hx AA
  rw[F7]at hp ⊢
  cases hd:decide (m*EM y>4096)with
  |true=>rw[hd]at hp;cases hp
  |false =>
   rw[hd]at hp
   have h2:=Jk hd
   rw[decide_eq_false AA,cond_false]
   exact SbL.prod h.2 (Int.mul_nonneg h0 hx) h1 hp
theorem SbL.check{L M:List AP}(h:SbL L M)(hM:∀x,x∈M→Tq x)(hl:M.length≤14):(DF BB.data.toList L).1=0 :=
 AT7 (fun x hx=>⟨(h.spot hM x hx).1,(h.spot hM x hx).2.1⟩) (by have:=h.len;omega)
theorem SbL.cho{L M:List AP}(h:SbL L M)(hM:∀x,x∈M→Tq x)(hl:M.length≤14)(h0:(Dw BB.data.toList M).2=0):(Dw BB.data.toList L).2=0:=by
 have hcM:=AOm hM hl
 have hcL:=h.check hM hl
 unfold Dw at h0 ⊢
 rw[show((DF BB.data.toList M).1 !=0)=false by rw[hcM];rfl]at h0
 rw[show((DF BB.data.toList L).1 !=0)=false by rw[hcL];rfl]
 cases hp:F7 1 M with
 |none=>rw[hp]at h0;cases h0
 |some q =>
  obtain⟨p,h1⟩:=h.prod (n:=1) AA AA hp
  rw[h1]
  rfl
theorem SbS.two{x y:AP}(h:SbS x y)(hy:y.AT.length≤2):0<(AEg x.AT y.AT).length∧(AEg x.AT y.AT).length≤3:=by
 obtain⟨s,hs⟩:∃s,s∈x.AT:=by
  cases hx:x.AT with
  |nil =>
   have:=h.2.2.2.1
   rw[hx]at this
   cases this
  |cons s l=>exact⟨s,Al⟩
 have h1:=AT6 (h.1 s hs) hs
 have h2:=h.2.2.2.2
 exact⟨List.length_pos_of_mem (ATc (r:=y.AT) hs),AA⟩
theorem SbL.two:∀{L M:List AP},SbL L M→(∀x,x∈M→Tq x)→∀p,p∈L.zip M→EM (AM5 p.1 p.2)≤4
 | [],_,_,_,p,hp=>by cases hp
 |_::_,[],h,_,_,_=>h.elim
 |x::L,y::M,h,hM,p,hp=>by
  rcases List.mem_cons.1 hp with rfl|hp
  ·have h3:=(h.1.two (hM y Al).ok.2.2.2).2
   exact(ATp (x:=AM5 x y) (k:=3) h3).2
  exact SbL.two h.2 (fun z hz=>hM z (BQ hz)) p hp
theorem SbL.mrg:∀{L M:List AP},SbL L M→(∀x,x∈M→Tq x)→∀z,z∈List.zipWith AM5 L M→G8 z=false∧Fp [] z.AT=0∧z.AT.length≤3
 | [],_,_,_,z,hz=>by cases hz
 |_::_,[],h,_,_,_=>h.elim
 |x::L,y::M,h,hM,z,hz=>by
  rcases List.mem_cons.1 hz with rfl|hz
  ·have hy:=(hM y Al).ok
   obtain⟨h2,h3⟩:=h.1.two hy.2.2.2
   exact⟨AUE h2 (ATp (x:=AM5 x y) (k:=3) h3).2,ATr h.1.2.2.1 (ATw hy.2.1),h3⟩
  exact SbL.mrg h.2 (fun w hw=>hM w (BQ hw)) z hz
theorem AUg{L M:List AP}(h:L.length=M.length):(List.zipWith AM5 L M).length=M.length:=by
 rw[List.length_zipWith]
 omega
theorem ATt{E Z:List AP}{C:List Sg}{i:Nat}(Cz:(DF BB.data.toList Z).1=0)(hp:∀x,x∈E→0<A6 x)(hC:nth (Eo BB.data.toList E (BR E)) i=some C)(hle:LeS E Z):findF BB.data.toList BB.data.toList Z C=(Di Z C,true,0):=by
 obtain⟨BI,k,RF,uk⟩:=VA hC
 have iR:=ATj hle (fR hp RF uk).1
 have h1:(Df BB.data.toList C).1=0:=eq_of_beq BI
 unfold findF
 rw[show((DF BB.data.toList Z).1 !=0)=false by rw[Cz];rfl,show((Df BB.data.toList C).1 !=0)=false by rw[h1];rfl,VI,iR]
 rfl
end Go.Proofs.YtmfphenhpkgidaaGreatDoor

/-
  The evaluator of the model, and that it is sound: part 2.
-/
import Derived.Laws.BytesString
import Derived.Lib.UnsafeStr
import Derived.Lib.Builder
import Derived.RangeFuncIn
import Derived.RangeFuncLeaves
import Derived.OrdersIn
import Derived.Sort.LoopGhostIn
import Derived.TacticsIn
import Derived.Scope
import Derived.RangeFuncNested
import Derived.Test.YtmfphenhpkgidaaGreatDoorCm1
namespace Go.Cm
open Go
variable{P:Program}{w0:Bi}
theorem AI0{ρ:AI}{x x' v:Value}(h:Xe x=some v)(hx:VR ρ x x'):v=x∧(∀t,x'≠ .pointer none∧x'≠ .nilIface∧x'≠ .nilFunc∧∀a b,x'≠ .func (.method t) a b):=by
 unfold Xe at h
 split at h<;>first
  |(cases h;done)
  |(cases h;refine⟨rfl,fun t=>?_⟩;cases hx<;>simp)
theorem AS.PS{ρ:AI}{f g:Operand→Value}:∀(l:List Operand),(∀x,x∈l→VR ρ (f x) (g x))→AS ρ (l.map f) (l.map g)
 | [],_=>AS.nil
 |x::l,h=>AS.cons (h x (by simp)) (AS.PS l fun y hy=>h y (by simp[hy]))
theorem map_mk(l:Array Operand)(g:Operand→Value):l.map g=⟨l.toList.map g⟩:=by
 apply Array.ext'
 simp
theorem AJe{ρ:AI}{o:Oper}{f g:Operand→Value}(Ax:∀x,x∈o.op.operands→VR ρ (f x) (g x)){v:Value}(h:FY P f o.op=some v)(w:World) :
  ∃v',(execOp g o).run P w= .ok (.value v') w∧VR ρ v v':=by
 cases ho:o.op<;>rw[ho]at h Ax<;>simp only[FY]at h
 case move x=>cases h;exact⟨_,by simp[execOp,ho],Ax x (by simp[Op.operands])⟩
 case assign x=>cases h;exact⟨_,by simp[execOp,ho],Ax x (by simp[Op.operands])⟩
 case pick c a b =>
  have hc:=Ax c (by simp[Op.operands])
  have ha:=Ax a (by simp[Op.operands])
  have hb:=Ax b (by simp[Op.operands])
  split at h
  ·rename_i t ht
   cases h
   rw[ht]at hc
   have hg:g c= .bool t:=by
    generalize g c=y at hc ⊢
    cases hc;rfl
   refine⟨if t then g a else g b,by simp[execOp,ho,hg,asBool],?_⟩
   cases t
   ·exact hb
   exact ha
  cases h
 case build t parts =>
  have hp:J1 ρ (Jp f parts.toList) (parts.map fun(i,x)=>(i,g x)).toList:=by
   refine⟨by simp[Jp],?_⟩
   simp only[Jp,List.map_map,Array.toList_map]
   have:=AS.PS (ρ:=ρ) (f:=f) (g:=g) (parts.toList.map (·.2)) (fun x hx=>Ax x (by simpa [Op.operands]using hx))
   simpa [List.map_map,Function.comp_def]using this
  obtain⟨v',a,b⟩:=AEF h hp w
  exact⟨v',by simp[execOp,ho,a],b⟩
 case nilCheck x =>
  have hx:=Ax x (by simp[Op.operands])
  obtain⟨rfl,hn⟩:=AI0 h hx
  refine⟨g x,?_,hx⟩
  simp only[execOp,ho]
  have h1:=(hn "").1
  have h2:=(hn "").2.1
  have h3:=(hn "").2.2.1
  split
  ·rename_i e;exact absurd e h1
  ·rename_i e;exact absurd e h2
  ·rename_i e;exact absurd e h3
  ·rename_i nm a b e;exact absurd e ((hn nm).2.2.2 _ _)
  rfl
 case binOp op t x y yt =>
  obtain⟨a,b⟩:=ADO h (Ax x (by simp[Op.operands])) (Ax y (by simp[Op.operands])) w
  refine⟨v,?_,b.refl ρ⟩
  simp only[execOp,ho]
  rw[Sem.run_bind,a]
  rfl
 case unOp op t x =>
  obtain⟨a,b⟩:=ASM (P:=P) h (Ax x (by simp[Op.operands])) w
  exact⟨v,by simp[execOp,ho,a],b.refl ρ⟩
 case makeInterface t x =>
  have hx:=Ax x (by simp[Op.operands])
  split at h
  ·cases h
  ·rename_i d Nm hu
   cases h
   refine⟨.iface t (g x),?_,.iface t hx⟩
   cases d<;>first
    |exact absurd rfl (Nm _)
    |simp[execOp,ho,Instr.makeInterface,A3 w hu]
  cases h
 case makeFunc fn first cap =>
  have h1:=AS.PS (ρ:=ρ) (f:=f) (g:=g) first.toList (fun x hx=>Ax x (by simp[Op.operands];left;simpa using hx))
  have h2:=AS.PS (ρ:=ρ) (f:=f) (g:=g) cap.toList (fun x hx=>Ax x (by simp[Op.operands];right;simpa using hx))
  split at h
  ·cases h
   exact⟨_,by simp only[execOp,ho,Instr.makeFunc,map_mk];rfl,.func _ h1.1 h1.2 h2.1 h2.2⟩
  ·cases h
   exact⟨_,by simp only[execOp,ho,Instr.makeFunc,map_mk];rfl,.method _ h1.1 h1.2 h2.1 h2.2⟩
  ·cases h
   exact⟨_,by simp only[execOp,ho,Instr.makeFunc,map_mk];rfl,.via _ _ _ _ h1.1 h1.2 h2.1 h2.2⟩
  cases h
 case fieldAddr s x i =>
  obtain⟨v',a,b⟩:=AFV h (Ax x (by simp[Op.operands])) w
  exact⟨v',by simp[execOp,ho,a],b⟩
 case field t x i =>
  obtain⟨v',a,b⟩:=AFX h (Ax x (by simp[Op.operands])) w
  exact⟨v',by simp[execOp,ho,a],b⟩
 case indexAddr t x i =>
  obtain⟨v',a,b⟩:=AHb h (Ax x (by simp[Op.operands])) (Ax i (by simp[Op.operands])) w
  exact⟨v',by simp[execOp,ho,a],b⟩
 case index t x i =>
  obtain⟨v',a,b⟩:=AHe h (Ax x (by simp[Op.operands])) (Ax i (by simp[Op.operands])) w
  exact⟨v',by simp[execOp,ho,a],b⟩
 case typeAssert x xt t ok =>
  obtain⟨v',a,b⟩:=ASK (xT:=xt) h (Ax x (by simp[Op.operands])) w
  exact⟨v',by simp[execOp,ho,a],b⟩
 case extract x i =>
  have hx:=Ax x (by simp[Op.operands])
  split at h
  ·rename_i vs F2
   rw[F2]at hx
   obtain⟨va,hg,hr⟩:=hx.ASI
   rw[CE]at h
   obtain⟨v',a,b⟩:=hr.get h
   have:va[i]?=some v':=by rw[←Array.getElem?_toList];exact a
   exact⟨v',by simp[execOp,ho,hg,Instr.extract,this],b⟩
  cases h
 all_goals cases h
theorem gO{α:Type}{f:α→PUnit→Sem (ForInStep PUnit)}{w:World}:∀(l:List α),(∀x,x∈l→(f x PUnit.unit).run P w= .ok (ForInStep.yield PUnit.unit) w) →
  (forIn l PUnit.unit f:Sem PUnit).run P w= .ok PUnit.unit w
 | [],_=>by simp
 |x::l,h=>by
  simp only[List.forIn_cons,Sem.run_bind,h x (by simp),Result.andThen_ok]
  exact gO l fun y hy=>h y (by simp[hy])
theorem XW{ρ:AI}(empty:Bool):∀(n N:Nat) (t:TypeId) (v v':Value) (w:World),n≤N→F4 P n t v=true→VR ρ v v'→(Instr.checkKey empty N t v').run P w= .ok () w
 |0,_,_,_,_,_,_,h,_=>by simp[F4]at h
 |n+1,N,t,v,v',w,hN,h,hv=>by
  obtain⟨N,rfl⟩:∃k,N=k+1:=⟨N-1,by omega⟩
  unfold F4 at h
  split at h
  ·cases h
  ·rename_i len elem hu
   split at h
   ·rename_i cs z hz
    obtain⟨ca,rfl,hc⟩:=hv.NG
    unfold Instr.checkKey
    simp only[Sem.run_bind,A3 w hu,Result.andThen_ok]
    rw[show(forIn [0:len] PUnit.unit _:Sem PUnit)=_ from Std.Legacy.Range.forIn_eq_forIn_range' ..]
    rw[gO]
    ·rfl
    intro i hi
    have E5:i<len:=by simp[Std.Legacy.Range.size]at hi;omega
    have hx:=List.all_eq_true.1 h i (by simp[E5])
    split at hx
    ·rename_i x IG
     obtain⟨x',a,b⟩:=PX IG hc w
     simp[FZ w hz,a,XW empty n N elem x x' w (by omega) hx b]
    cases hx
   cases h
  ·rename_i fields hu
   split at h
   ·rename_i cs
    obtain⟨ca,rfl,hc⟩:=hv.NG
    unfold Instr.checkKey
    simp only[Sem.run_bind,A3 w hu,Result.andThen_ok]
    rw[←Array.forIn_toList]
    rw[gO]
    ·rfl
    intro f hf
    have hx:=List.all_eq_true.1 h f hf
    by_cases hn:f.name= "_"
    ·simp[hn]
    simp only[hn,decide_false,Bool.false_or]at hx
    split at hx
    ·rename_i x IG
     obtain⟨x',a,b⟩:=PX IG hc w
     simp[hn,a,XW empty n N f.type x x' w (by omega) hx b]
    cases hx
   cases h
  ·rename_i d h1 h2 h3 hu
   unfold Instr.checkKey
   simp only[Sem.run_bind,A3 w hu,Result.andThen_ok]
   cases d<;>first
    |exact absurd rfl (h1 _)
    |exact absurd rfl (h2 _ _)
    |exact absurd rfl (h3 _)
    |rfl
  cases h
def eL(ρ:AI):Option (Nat×Value)→Option (Nat×Value)→Prop
 |none,none=>True
 |some (i,v),some (j,v')=>i=j∧VR ρ v v'
 |_,_=>False
theorem AM9{ρ:AI}{t:TypeId}{d:TypeDesc}(hu:P.underlying t=some d){k k' e e':Value}(hk:VR ρ k k')(he:VR ρ e e'){b r:Bool}(h:Instr.sameNow d k' e'=some b)(h2:Cl P E' t k e=some r):b=r:=by
 unfold Instr.sameNow at h
 unfold E' Cl at h2
 rw[hu]at h2
 split at h
 ·rename_i kk k1 a k2 b'
  have h1:=hk.az
  have h3:=he.az
  subst h1;subst h3
  simp only at h2
  split at h
  ·rename_i Hi
   subst Hi
   simp at h h2
   rw[←h,←h2]
  cases h
 ·rename_i a b'
  have h1:=hk.dm
  have h3:=he.dm
  subst h1;subst h3
  simp only[Option.some.injEq]at h h2
  rw[←h,←h2,YL,beq_toListBytes,ByteArray.toList_eq,ByteArray.toList_eq]
 ·rename_i a b'
  have h1:k= .bool a:=by cases hk;rfl
  have h3:e= .bool b':=by cases he;rfl
  subst h1;subst h3
  simp only[Option.some.injEq]at h h2
  rw[←h,←h2]
 cases h
theorem tG{ρ:AI}{t:TypeId}{d:TypeDesc}(hu:P.underlying t=some d){k k':Value}(hk:VR ρ k k'):∀(es BP:List MapEntry) (i:Nat) (r:Option (Nat×Value)) (q:Option (Nat×Value)),Ia ρ es BP →
  JP P t k es i=some r→Instr.findNow d k' BP i=some q→eL ρ r q
 | [],[],i,r,q,_,h,h'=>by simp[JP,Instr.findNow]at h h';subst h;subst h';trivial
 | [],_::_,_,_,_,he,_,_=>by simp[Ia]at he
 |_::_,[],_,_,_,he,_,_=>by simp[Ia]at he
 |e::es,e'::BP,i,r,q,he,h,h'=>by
  have h0:=he.2 0 e e' rfl rfl
  have hr:Ia ρ es BP:=⟨by simpa using he.1,fun j a b x y=>he.2 (j+1) a b (by simpa using x) (by simpa using y)⟩
  unfold JP at h
  unfold Instr.findNow at h'
  cases hq:Cl P E' t k e.key with
  |none=>rw[hq]at h;cases h
  |some b =>
   rw[hq]at h
   cases hs:Instr.sameNow d k' e'.key with
   |none=>rw[hs]at h';cases h'
   |some c =>
    rw[hs]at h'
    have:=AM9 hu hk h0.1 hs hq
    subst this
    cases c with
    |true=>simp only[Option.some.injEq]at h h';subst h;subst h';exact⟨rfl,h0.2.1⟩
    |false=>exact tG hu hk es BP (i+1) r q hr h h'
theorem tF{ρ:AI}{t:TypeId}{k k':Value}(hk:VR ρ k k')(w:World):∀(es BP:List MapEntry) (i:Nat) (r:Option (Nat×Value)),Ia ρ es BP→JP P t k es i=some r →
  ∃q,(Instr.findAsking t k' BP i).run P w= .ok q w∧eL ρ r q
 | [],[],i,r,_,h=>by simp[JP]at h;subst h;exact⟨none,by simp[Instr.findAsking],trivial⟩
 | [],_::_,_,_,he,_=>by simp[Ia]at he
 |_::_,[],_,_,he,_=>by simp[Ia]at he
 |e::es,e'::BP,i,r,he,h=>by
  have h0:=he.2 0 e e' rfl rfl
  have hr:Ia ρ es BP:=⟨by simpa using he.1,fun j a b x y=>he.2 (j+1) a b (by simpa using x) (by simpa using y)⟩
  unfold JP at h
  cases hq:Cl P E' t k e.key with
  |none=>rw[hq]at h;cases h
  |some b =>
   rw[hq]at h
   have:=Zk E' 10000 t k e.key b k' e'.key w (by decide) hq hk h0.1
   cases b with
   |true =>
    simp only[Option.some.injEq]at h;subst h
    exact⟨some (i,e'.val),by simp[Instr.findAsking,Op.equal,Op.maxDepth,this],rfl,h0.2.1⟩
   |false =>
    obtain⟨q,a,b⟩:=tF hk w es BP (i+1) r hr h
    exact⟨q,by simp[Instr.findAsking,Op.equal,Op.maxDepth,this,a],b⟩
theorem T8{ρ:AI}{t:TypeId}{k k':Value}(hk:VR ρ k k')(w:World){es BP:List MapEntry}{r:Option (Nat×Value)}(he:Ia ρ es BP)(h:JP P t k es 0=some r){d:TypeDesc}(hu:P.underlying t=some d) :
  ∃q,(Instr.findKey t k' BP).run P w= .ok q w∧eL ρ r q:=by
 unfold Instr.findKey
 simp only[Sem.run_bind,A3 w hu,Result.andThen_ok]
 cases hn:Instr.findNow d k' BP 0 with
 |some q=>exact⟨q,rfl,tG hu hk es BP 0 r q he h hn⟩
 |none=>exact tF hk w es BP 0 r he h
theorem lO{n:Nat}{t:TypeId}{v:Value}(h:F4 P n t v=true):∃d,P.underlying t=some d:=by
 cases n with
 |zero=>simp[F4]at h
 |succ n =>
  unfold F4 at h
  cases hu:P.underlying t with
  |none=>rw[hu]at h;cases h
  |some d=>exact⟨d,rfl⟩
theorem AIS{ρ:AI}{S:St}{w:World}(hs:AW P w0 ρ S w){t:TypeId}{x x' ix I2 v:Value}{ok:Bool}(h:N3 P t x ix ok S=some v)(hx:VR ρ x x')(hi:VR ρ ix I2) :
  ∃v',(Instr.lookup t x' I2 ok).run P w= .ok v' w∧VR ρ v v':=by
 unfold N3 at h
 split at h
 ·rename_i key elem hu
  split at h
  ·rename_i es Q7
   split at h
   ·rename_i hk
    obtain⟨d,hd⟩:=lO hk
    have AGf:∃BP:List MapEntry,Ia ρ es BP∧∀(q:Option (Nat×Value)),(Instr.checkKey BP.toArray.isEmpty 10000 key I2).run P w= .ok () w→(Instr.findKey key I2 BP).run P w= .ok q w →
      (Instr.lookup t x' I2 ok).run P w=((match q with
       |some (_,v)=>(pure (v,true):Sem (Value×Bool))
       |none=>do pure (←zeroValue elem,false)).run P w).andThen fun r w'=> .ok (if ok then .tuple #[r.1,.bool r.2]else r.1) w':=by
     unfold mapOf at Q7
     split at Q7
     ·cases Q7;cases hx
      refine⟨[],⟨rfl,fun i e e' a=>by simp at a⟩,fun q h1 h2=>?_⟩
      have Zz:(Instr.checkKey true 10000 key I2).run P w= .ok () w:=h1
      cases q with
      |none=>cases hz:(zeroValue elem).run P w<;>simp[Instr.lookup,A3 w hu,Zz,h2,hz]
      |some y=>simp[Instr.lookup,A3 w hu,Zz,h2]
     ·rename_i r
      split at Q7
      ·rename_i es0 clock hB
       cases Q7
       cases hx with
       |map hb =>
        rename_i L
        obtain⟨BP,h1,h2⟩:=hs.Bn _ _ _ hb hB
        have hg:(getObj L.r).run P w= .ok (.map BP.toArray clock) w:=by simp[getObj,Sem.run,h1]
        refine⟨BP,h2,fun q h3 h4=>?_⟩
        have Nb:(Instr.checkKey BP.isEmpty 10000 key I2).run P w= .ok () w:=by simpa using h3
        cases q with
        |none=>cases hz:(zeroValue elem).run P w<;>simp[Instr.lookup,A3 w hu,hg,Nb,h4,hz]
        |some y=>simp[Instr.lookup,A3 w hu,hg,Nb,h4]
      cases Q7
     cases Q7
    obtain⟨BP,he,AGG⟩:=AGf
    have Cz:=XW (P:=P) (ρ:=ρ) (BP.toArray.isEmpty) 20 10000 key ix I2 w (by decide) hk hi
    have base:=fun q=>AGG q Cz
    split at h
    ·rename_i i v0 hf
     cases h
     obtain⟨q,a,b⟩:=T8 hi w he hf hd
     cases q with
     |none=>exact b.elim
     |some y =>
      obtain⟨j,v'⟩:=y
      refine⟨if ok then .tuple #[v',.bool true]else v',by rw[base _ a];simp,?_⟩
      cases ok
      ·exact b.2
      exact VR.tuple' (AS.cons b.2 (AS.cons (.bool true) .nil))
    ·rename_i hf
     split at h
     ·rename_i z hz
      cases h
      obtain⟨q,a,b⟩:=T8 hi w he hf hd
      cases q with
      |some y=>exact b.elim
      |none =>
       obtain⟨_,_,_,Iu⟩:=QR hz
       refine⟨if ok then .tuple #[z,.bool false]else z,by rw[base _ a];simp[Ka w hz],?_⟩
       cases ok
       ·exact Iu.refl ρ
       exact VR.tuple' (AS.cons (Iu.refl ρ) (AS.cons (.bool false) .nil))
     cases h
    cases h
   cases h
  cases h
 cases h
theorem w6{ρ:AI}{S:St}{w:World}(hs:AW P w0 ρ S w){t ty:TypeId}{ts:Array TypeId}{x x' v:Value}(h:Fo P t x S=some v)(hx:VR ρ x x')(ht:ts[0]?=some t) :
  (Builtin.len_ ts ty #[x']).run P w= .ok v w∧Flat v:=by
 unfold Fo at h
 split at h
 ·rename_i s hu;cases h;cases hx;exact⟨by simp[Builtin.len_,ht,A3 w hu,goInt],.int _ _⟩
 ·rename_i n e hu
  cases h
  exact⟨by cases x'<;>simp[Builtin.len_,ht,A3 w hu,goInt],.int _ _⟩
 ·rename_i arr hu
  split at h
  ·rename_i n e HM
   cases h
   exact⟨by cases x'<;>simp[Builtin.len_,ht,A3 w hu,A3 w HM,goInt],.int _ _⟩
  cases h
 ·rename_i e a n c hu
  cases h
  cases hx<;>exact⟨by simp[Builtin.len_,ht,A3 w hu,goInt],.int _ _⟩
 ·rename_i k e hu;cases h;cases hx;exact⟨by simp[Builtin.len_,ht,A3 w hu,goInt],.int _ _⟩
 ·rename_i k e r hu
  split at h
  ·rename_i es clock hB
   cases h
   cases hx with
   |map hb =>
    obtain⟨BP,h1,h2⟩:=hs.Bn _ _ _ hb hB
    exact⟨by simp[Builtin.len_,ht,A3 w hu,goInt,getObj,Sem.run,h1,h2.1],.int _ _⟩
  cases h
 cases h
end Go.Cm
namespace Go.Cm
open Go
variable{P:Program}{w0:Bi}
theorem td{need cap bytes:Nat}(h1:cap<need)(h2:need≤Ae)(h3:bytes≤1024):¬(281474976710656<Builtin.nextslicecap need cap*bytes):=by
 have h4:=nextslicecap_le h1
 have:Builtin.nextslicecap need cap*bytes≤(2*Ae)*1024:=Nat.mul_le_mul (by omega) h3
 unfold Ae at this
 omega
set_option maxHeartbeats 8000000 in
theorem AJ2{ts:Array TypeId}{sT xT ty elem:TypeId}{xd:TypeDesc}{size len n cap:Nat}{x:Value}{new:List Value}{w:World}(h0:ts[0]?=some sT)(h1:ts[1]?=some xT)(hu:P.underlying sT=some (.slice elem))
  (hx:P.underlying xT=some xd)(HN:FV xd=false)(A4:A5 P elem=some size)(hlen:(Builtin.lenOf x).run P w= .ok n w)(Cg:(Builtin.firstCells size n x).run P w= .ok new.toArray w)(Dc:len+n≤cap) :
  (Builtin.append_ ts ty #[.slice none len cap,x]).run P w= .ok (.slice none (len+n) cap) w:=by
 cases xd<;>first
  |(simp[FV]at HN;done)
  |simp[Builtin.append_,h0,h1,A3 w hu,A3 w hx,FZ w A4,hlen,Cg,Dc]
set_option maxHeartbeats 8000000 in
theorem YC{ts:Array TypeId}{sT xT ty elem:TypeId}{xd:TypeDesc}{size len n cap:Nat}{a:Addr}{x:Value}{new:List Value}{w w':World}(h0:ts[0]?=some sT)(h1:ts[1]?=some xT)(hu:P.underlying sT=some (.slice elem))
  (hx:P.underlying xT=some xd)(HN:FV xd=false)(A4:A5 P elem=some size)(hlen:(Builtin.lenOf x).run P w= .ok n w)(Cg:(Builtin.firstCells size n x).run P w= .ok new.toArray w)(Dc:len+n≤cap)
  (BL:(storeCells (a.add (len*size)) new).run P w= .ok () w'):(Builtin.append_ ts ty #[.slice (some a) len cap,x]).run P w= .ok (.slice (some a) (len+n) cap) w':=by
 cases xd<;>first
  |(simp[FV]at HN;done)
  |simp[Builtin.append_,h0,h1,A3 w hu,A3 w hx,FZ w A4,hlen,Cg,Dc,BL]
set_option maxHeartbeats 8000000 in
theorem m5{ts:Array TypeId}{sT xT ty elem:TypeId}{xd:TypeDesc}{size len n cap:Nat}{base:Option Addr}{x:Value}{old new:List Value}{w:World}(h0:ts[0]?=some sT)(h1:ts[1]?=some xT)(hu:P.underlying sT=some (.slice elem))
  (hx:P.underlying xT=some xd)(HN:FV xd=false)(A4:A5 P elem=some size)(hlen:(Builtin.lenOf x).run P w= .ok n w)(hold:(Builtin.firstCells size len (.slice base len cap)).run P w.drew= .ok old.toArray w.drew)
  (Cg:(Builtin.firstCells size n x).run P w.drew= .ok new.toArray w.drew)(Dc:¬(len+n≤cap)){i:TypeInfo}{z:Value}(hi:P.info? elem=some i)(hz:zeroV P elem=some z)(hb:i.bytes≤1024)(hb0:0<i.bytes)(hm:len+n≤Ae) :
  ∃BM,len+n≤BM∧(Builtin.append_ ts ty #[.slice base len cap,x]).run P w= .ok (.slice (some ⟨w.heap.size,0,none⟩) (len+n) BM) (w.drew.alloc (.cells (old.toArray++new.toArray++Builtin.zeroCells z.cells (BM-(len+n))) elem)):=by
 have g1:=td (bytes:=i.bytes) (show cap<len+n by omega) hm hb
 have g2:¬(9223372036854775807<((len:Int)+(n:Int))):=by unfold Ae at hm;omega
 have g3:i.bytes≠0:=by omega
 refine⟨(Question.appendCap (len+n) cap elem).cut (w.tape w.drawn (.appendCap (len+n) cap elem)),by simp[Question.cut],?_⟩
 have RT:=Ka w.drew hz
 cases xd<;>first
  |(simp[FV]at HN;done)
  |(simp[Builtin.append_,h0,h1,A3 w hu,A3 w hx,FZ w A4,hlen,Cg,hold,Dc,MZ w hi,MZ w.drew hi,g1,g2,Question.forced,RT,newRow];congr 2;apply Array.ext';simp[List.append_assoc])
end Go.Cm
namespace Go.Cm
open Go
variable{P:Program}{w0:Bi}
theorem Xd{ρ:AI}{S:St}{w:World}(hs:AW P w0 ρ S w){c:List Value}{arr:Array Value}(hc:∀(i:Nat) v,c[i]?=some v→∃v',arr[i]?=some v'∧VR ρ v v'){e e':TypeId}(he:e≠0→e'=e){z:Nat}(hz:A5 P e=some z)
  {n k k':Nat}(hn:n≤k)(hk:k≤k')(hr:z≠0→k'*z≤arr.size) :
  ∃ρ',Ext ρ ρ'∧AW P w0 ρ' (N8 S c e n k).2 (w.alloc (.cells arr e'))∧VR ρ' (N8 S c e n k).1 (.slice (some ⟨w.heap.size,0,none⟩) n k'):=by
 obtain⟨h1,h2⟩:=ll (P:=P) (e:=e) (e':=e') (row:=true) (kin:=[]) (z:=z) (arr:=arr) hs hc (fun _=>hz) (by simp) he
 refine⟨_,h1,h2,?_⟩
 exact VR.slice (L:=⟨w.heap.size,0,arr.size,z⟩) (Ju _ _ _) hn hk (fun Ac=>by simpa using hr Ac) (.inl rfl)
theorem zM{z:List Value}:∀(n:Nat) (i:Nat),i<n*z.length→(EE n z)[i]?=z[i%z.length]?
 |0,i,h=>by simp at h
 |n+1,i,h=>by
  have h2:i<n*z.length+z.length:=by rw[Nat.succ_mul]at h;exact h
  unfold EE
  by_cases hi:i<z.length
  ·rw[List.getElem?_append_left hi,Nat.mod_eq_of_lt hi]
  rw[List.getElem?_append_right (by omega),zM n _ (by omega)]
  congr 1
  exact(Nat.mod_eq_sub_mod (by omega)).symm
theorem YD{z:List Value}:∀(n:Nat),(EE n z).length=n*z.length
 |0=>by simp[EE]
 |n+1=>by simp[EE,YD n,Nat.add_mul];omega
theorem AS0{z:Array Value}{n i:Nat}(h:i<n)(hz:0<z.size):((Array.range n).map (fun i=>z[i%z.size]!))[i]?=z[i%z.size]?:=by
 have hm:i%z.size<z.size:=Nat.mod_lt _ hz
 simp[h,getElem!_pos z (i%z.size) hm,Array.getElem?_eq_getElem hm]
theorem Yq{ρ:AI}{t:TypeId}{z:Value}(hz:zeroV P t=some z)(n m:Nat)(hm:m=n*z.cells.size):AS ρ (EE n (BG z)) (((Array.range m).map (fun i=>z.cells[i%z.cells.size]!)).toList):=by
 obtain⟨_,_,_,hf⟩:=QR hz
 have hv:=(hf.refl ρ).cells
 have hlen:(BG z).length=z.cells.size:=by rw[JM];simp
 refine⟨by rw[YD,hlen];simp[hm],fun i v v' h h'=>?_⟩
 have hi:i<n*(BG z).length:=by
  have:=(List.getElem?_eq_some_iff.1 h).1
  rwa [YD]at this
 have XA:0<z.cells.size:=by
  rcases Nat.eq_zero_or_pos z.cells.size with e|e
  ·rw[hlen,e]at hi;simp at hi
  exact e
 rw[zM n i hi]at h
 rw[Array.getElem?_toList,AS0 (by rw[hm,←hlen];exact hi) XA,←Array.getElem?_toList,←JM,←hlen]at h'
 exact hv.2 _ _ _ h h'
def Gv(P:Program)(w0:Bi)(ρ:AI)(v:Value)(S':St)(r:Result Value):Prop :=
 ∃ρ' v' w',r= .ok v' w'∧Ext ρ ρ'∧VR ρ' v v'∧AW P w0 ρ' S' w'
theorem ABw{ρ:AI}{S:St}{w:World}(hs:AW P w0 ρ S w){e:TypeId}{z:List Value}(h:zeroOf P e=some z):Gv P w0 ρ (PV S z e false).1 (PV S z e false).2 ((Instr.alloc e true (.tuple #[])).run P w):=by
 obtain⟨zv,hz,rfl,hf⟩:=p0 h
 obtain⟨ρ',w',a,b,c,d⟩:=xr hs (hf.refl ρ) e
 exact⟨ρ',_,w',by simp[Instr.alloc,Ka w hz,a],b,d,c⟩
theorem AEC{ρ:AI}{S:St}{w:World}(hs:AW P w0 ρ S w){e:TypeId}{v v':Value}(hv:VR ρ v v'):Gv P w0 ρ (PV S (BG v) e false).1 (PV S (BG v) e false).2 ((Instr.box e v').run P w):=by
 obtain⟨ρ',w',a,b,c,d⟩:=xr hs hv e
 exact⟨ρ',_,w',by simp[Instr.box,a],b,d,c⟩
theorem xp{ρ:AI}{S:St}{w:World}(hs:AW P w0 ρ S w) :
  ∃ρ',Ext ρ ρ'∧VR ρ' (.map (some S.size)) (.map (some w.heap.size))∧AW P w0 ρ' ⟨S.heap.set S.size (some (.map [] 0)),S.size+1⟩ (w.alloc (.map #[] 0)):=by
 obtain⟨a,b⟩:=hs.add (B:= .map [] 0) (o:= .map #[] 0) (L:=⟨w.heap.size,0,0,0⟩) rfl ⟨[],rfl,rfl,fun i e e' h=>by simp at h⟩
 exact⟨_,a,VR.map (L:=⟨w.heap.size,0,0,0⟩) (Ju _ _ _),b⟩
theorem gA{place:Nat→Option (Nat×Nat)}:∀(parts:List (Nat×Value)) (c c1:List Value),KC place c parts=some c1→c1.length=c.length
 | [],c,c1,h=>by simp[KC]at h;rw[h]
 |(i,v)::r,c,c1,h=>by
  unfold KC at h
  split at h
  ·cases h
  rename_i off size Dp
  cases hg:(Nat.beq (BG v).length size&&Nat.ble (off+size) c.length)with
  |false=>rw[hg]at h;cases h
  |true =>
   rw[hg]at h
   simp only[cond_true]at h
   split at h
   ·rename_i c2 MG
    rw[gA r c2 c1 h,(VL _ _ _ _ MG).1]
   cases h
theorem AEE{ρ:AI}{S S':St}{w:World}(hs:AW P w0 ρ S w){t:TypeId}{len:Nat}{parts:Array (Nat×Operand)}{f g:Operand→Value}{v:Value}(h:DY P f (.buildSlice t len parts) S=some (v,S'))
  (hp:J1 ρ (Jp f parts.toList) (parts.map fun(i,x)=>(i,g x)).toList):Gv P w0 ρ v S' ((Instr.buildSlice t len (parts.map fun(i,x)=>(i,g x))).run P w):=by
 simp only[DY]at h
 split at h
 ·rename_i elem hu
  split at h
  ·rename_i ei FE
   split at h
   ·rename_i z hz
    split at h
    ·rename_i hle
     split at h
     ·rename_i c hc
      cases h
      have A4:A5 P elem=some ei.size:=by simp[A5,FE]
      have Uh:z.cells.size=ei.size:=by have:=hle.2;rw[JM]at this;simpa using this
      have Ns:=Yq (ρ:=ρ) hz len (len*ei.size) (by rw[Uh])
      obtain⟨c',f1,f2⟩:=Wb (place':=fun i=>some (i*ei.size,ei.size)) (fun _=>rfl) _ _ _ _ _ hc Ns hp
      have iU:c.length=len*ei.size:=by
       have:=gA _ _ _ hc
       rw[this,YD,hle.2]
      have Hf:c'.size=len*ei.size:=by rw[←iU,f2.1];simp
      obtain⟨ρ',a1,a2,a3⟩:=Xd hs (c:=c) (arr:=c') (fun i x hx=>by obtain⟨x',p1,p2⟩:=f2.get hx;exact⟨x',by rw[←Array.getElem?_toList];exact p1,p2⟩) (e:=elem) (e':=elem) (fun _=>rfl) A4
       (n:=len) (k:=len) (k':=len) (Nat.le_refl _) (Nat.le_refl _) (fun _=>by rw[Hf];exact Nat.le_refl _)
      refine⟨ρ',_,_,?_,a1,a3,a2⟩
      unfold Instr.buildSlice
      simp only[Sem.run_bind,A3 w hu,Result.andThen_ok,FZ w A4]
      rw[if_neg (by omega)]
      by_cases h0:len*ei.size=0
      ·rw[if_pos h0]
       have e1:Array.map (fun x=>(#[]:Array Value)[x%(#[]:Array Value).size]!) (Array.range (len*ei.size))=Array.map (fun i=>z.cells[i%z.cells.size]!) (Array.range (len*ei.size)):=by rw[h0];simp
       simp only[Sem.run_bind,Sem.run_pure,Result.andThen_ok]
       rw[e1,f1]
       simp[newRow]
      rw[if_neg h0]
      simp only[Sem.run_bind,Ka w hz,Sem.run_pure,Result.andThen_ok]
      rw[f1]
      simp[newRow]
     cases h
    cases h
   cases h
  cases h
 cases h
theorem cz{ρ:AI}{S:St}{w:World}(hs:AW P w0 ρ S w){size n:Nat}{x x':Value}{l:List Value}(h:EN S size n x=some l)(hx:VR ρ x x')(hn:∀k,F6 x=some k→n≤k) :
  ∃l':List Value,(Builtin.firstCells size n x').run P w= .ok l'.toArray w∧AS ρ l l':=by
 unfold EN at h
 split at h
 ·cases hb:Nat.beq n 0 with
  |false=>rw[hb]at h;cases h
  |true =>
   rw[hb]at h;cases h;cases hx
   exact⟨[],by simp[Builtin.firstCells],AS.nil⟩
 ·rename_i b o len cap
  unfold MW at h
  split at h
  ·rename_i c e row own kin hB
   cases hx with
   |slice hb O8 hc hr ho =>
    rename_i o' c' L
    obtain⟨arr,e',fz,h1,h2,h3,h4,h5,h6⟩:=hs.Bn _ _ _ hb hB
    have W6:=hn len rfl
    rcases ho with ho|ho
    ·subst ho
     obtain⟨l',a1,a2⟩:=lX (P:=P) h1 h3 h
     exact⟨l',by simp[Builtin.firstCells,a1],a2⟩
    have:n=0:=by omega
    subst this
    simp[takeN]at h
    subst h
    exact⟨[],by simp[Builtin.firstCells,loadCells,loadCellsFrom],AS.nil⟩
  cases h
 ·cases hb:Nat.beq n 0 with
  |false=>rw[hb]at h;cases h
  |true =>
   rw[hb]at h
   simp only[cond_true,Option.some.injEq]at h
   subst h
   have:=Bc hb
   subst this
   cases hx
   exact⟨[],by simp[Builtin.firstCells,loadCells,loadCellsFrom],AS.nil⟩
 ·rename_i s
  cases hx
  cases hz:Nat.beq size 1 with
  |false=>rw[hz]at h;cases h
  |true =>
  rw[hz]at h
  simp only[cond_true]at h
  obtain⟨h1,h2,h3⟩:=IW _ _ _ h
  have W6:=hn _ rfl
  refine⟨l,?_,?_⟩
  ·simp only[Builtin.firstCells,Sem.run_pure]
   congr 1
   rw[h3]
   apply Array.ext'
   simp[ByteArray.data_extract,List.extract]
  rw[h3,←List.map_take]
  exact AS.map _ _ (fun x=> .int _ _) _
 cases h
theorem w5{ρ:AI}{x x':Value}{n:Nat}(h:F6 x=some n)(hx:VR ρ x x')(w:World):(Builtin.lenOf x').run P w= .ok n w:=by
 unfold F6 at h
 split at h
 ·cases h;cases hx<;>simp[Builtin.lenOf]
 ·cases h;cases hx;simp[Builtin.lenOf]
 cases h
theorem AJA{ρ:AI}{S:St}{w:World}(hs:AW P w0 ρ S w){b o len size:Nat}{L:Loc}(hb:ρ b=some L){c:List Value}{e:TypeId}{row own:Bool}{kin:List Nat}(hB:S.get b=some (.cells c e row own kin))
  {old:List Value}(h:takeN (len*size) (CH o c)=some old)(o' n cap:Nat)(ho:o'=o+L.d∨len=0) :
  ∃l':List Value,(Builtin.firstCells size len (.slice (some ⟨L.r,o',none⟩) n cap)).run P w= .ok l'.toArray w∧AS ρ old l':=by
 obtain⟨arr,e',fz,h1,h2,h3,h4,h5,h6⟩:=hs.Bn _ _ _ hb hB
 rcases ho with ho|ho
 ·subst ho
  obtain⟨l',a1,a2⟩:=lX (P:=P) h1 h3 h
  exact⟨l',by simp[Builtin.firstCells,a1],a2⟩
 subst ho
 simp[takeN]at h
 subst h
 exact⟨[],by simp[Builtin.firstCells,loadCells,loadCellsFrom],AS.nil⟩
theorem AF3{ρ:AI}{S:St}{w:World}(hs:AW P w0 ρ S w){b:Nat}{L:Loc}(hb:ρ b=some L){c:List Value}{e:TypeId}{kin:List Nat}(hB:S.get b=some (.cells c e true true kin)) :
  AW P w0 ρ (S.set b (.cells c e true false kin)) w:=by
 have Dm:∀j,(S.set b (.cells c e true false kin)).get j=if j=b then some (.cells c e true false kin)else S.get j:=fun j=>Ee _ _ _ _
 refine⟨hs.size,hs.old,hs.os,hs.out,hs.Dj,fun x M C hx hC=>?_,fun x M C hx hC hm=>?_,hs.KE,hs.no⟩
 ·rw[Dm]at hC
  by_cases IH:x=b
  ·subst IH
   rw[if_pos rfl]at hC
   cases hC
   obtain⟨arr,e',fz,h1,h2,h3,h4,h5,h6⟩:=hs.Bn _ _ _ hx hB
   exact⟨arr,e',fz,h1,h2,h3,(by simp),h5,h6.1,fun h=>h.elim (fun e=>by cases e) (fun e=>by cases e)⟩
  rw[if_neg IH]at hC
  exact hs.Bn x M C hx hC
 rw[Dm]at hC
 by_cases IH:x=b
 ·subst IH
  rw[if_pos rfl]at hC
  cases hC
  simp[AF.Ux]at hm
 rw[if_neg IH]at hC
 refine⟨(hs.own x M C hx hC hm).1,fun y L' B' hy hr EC Ac=>?_⟩
 rw[Dm]at EC
 by_cases Ug:y=b
 ·subst Ug
  rw[if_pos rfl]at EC
  cases EC
  have h:=(hs.own x M C hx hC hm).2 y L' _ hy hr hB Ac
  exact absurd h.2.1 (by simp[AF.Ux])
 rw[if_neg Ug]at EC
 exact(hs.own x M C hx hC hm).2 y L' B' hy hr EC Ac
theorem AHf{ρ:AI}{S:St}{w w':World}(hs:AW P w0 ρ S w){b o:Nat}{L:Loc}(hb:ρ b=some L){c old new:List Value}{e:TypeId}{kin:List Nat}(hB:S.get b=some (.cells c e true true kin))(hoe:o+old.length=c.length)
  (hold:∀(i:Nat) v,old[i]?=some v→c[o+i]?=some v){GY:Array Value}{e':TypeId}{fz:Nat×Nat}(Bp:Kr L.r (.cells GY e' fz) w w'){arr:Array Value}(h1:w.heap[L.r]?=some (.cells arr e' fz))(A4:GY.size=arr.size)
  {KU:List Value}(Cg:AS ρ new KU)(Dm:∀j,GY[j]?=if c.length+L.d≤j∧j<c.length+L.d+KU.length then KU[j-(c.length+L.d)]? else arr[j]?) :
  Ext ρ (Bb ρ S.size ⟨L.r,L.d+o,L.Lh,L.z⟩) ∧
   AW P w0 (Bb ρ S.size ⟨L.r,L.d+o,L.Lh,L.z⟩) ⟨(S.set b (.cells c e true false kin)).heap.set S.size (some (.cells (old++new) e true true (b::kin))),S.size+1⟩ w':=by
 have Jb:ρ S.size=none:=by
  cases hx:ρ S.size with
  |none=>rfl
  |some M=>exact absurd (hs.Dj _ _ hx).1 (Nat.lt_irrefl _)
 have GI:=Ot (⟨L.r,L.d+o,L.Lh,L.z⟩:Loc) Jb
 have hbS:=(hs.Dj b L hb).1
 have Nn:=hs.own b L _ hb hB rfl
 obtain⟨AS8,e0,fz0,g1,g2,g3,g4,g5,g6⟩:=hs.Bn _ _ _ hb hB
 rw[h1]at g1
 cases g1
 have aH:∀x C,(⟨(S.set b (.cells c e true false kin)).heap.set S.size (some (.cells (old++new) e true true (b::kin))),S.size+1⟩:St).get x=some C →
   (x=S.size∧C= .cells (old++new) e true true (b::kin))∨(x≠S.size∧x=b∧C= .cells c e true false kin)∨(x≠S.size∧x≠b∧S.get x=some C):=by
  intro x C hC
  simp only[St.get,St.set,Cr.Hd]at hC
  by_cases hx:x=S.size
  ·left
   refine⟨hx,?_⟩
   rw[if_pos hx]at hC;exact(Option.some.inj hC).symm
  right
  rw[if_neg hx]at hC
  by_cases IH:x=b
  ·left
   rw[if_pos IH]at hC
   exact⟨hx,IH,(Option.some.inj hC).symm⟩
  right
  rw[if_neg IH]at hC
  exact⟨hx,IH,hC⟩
 have Cb:new.length=KU.length:=Cg.1
 -- what a block that lies in this memory reads as
 have AD:∀(i:Nat),i<c.length+L.d→GY[i]?=arr[i]?:=fun i hi=>by rw[Dm,if_neg (by omega)]
 have lM:∀x M C,ρ x=some M→(C.ext+M.d≤c.length+L.d∨M.r≠L.r)→Jy P ρ C w.heap[M.r]? M→(∀c' e' r' o' k',C= .cells c' e' r' o' k'→M.r=L.r→o'=false)→(M.r=L.r→∃c' e' r' o' k',C= .cells c' e' r' o' k')→Jy P ρ C w'.heap[M.r]? M:=by
  intro x M C hx hor hC ID UM
  by_cases hr:M.r=L.r
  ·obtain⟨c',e1,r',o',k',rfl⟩:=UM hr
   have IC:=ID _ _ _ _ _ rfl hr
   subst IC
   obtain⟨a1,a2,a3,b1,b2,b3,b4,b5,b6⟩:=hC
   rw[hr,h1]at b1
   cases b1
   have hle:c'.length+M.d≤c.length+L.d:=by
    rcases hor with h|h
    ·exact h
    exact absurd hr h
   refine⟨GY,e',fz,by rw[hr];exact Bp.now,by rw[A4];exact b2,fun i v hv=>?_,(by simp),b5,b6⟩
   obtain⟨v',p1,p2⟩:=b3 i v hv
   have hi:=(List.getElem?_eq_some_iff.1 hv).1
   exact⟨v',by rw[AD _ (by omega)];exact p1,p2⟩
  rw[Bp.same _ hr];exact hC
 refine⟨GI,⟨by rw[Bp.size];exact hs.size,fun i hi=>?_,Bp.os.trans hs.os,Bp.out.trans hs.out,fun x M hx=>?_,fun x M C hx hC=>?_,fun x M C hx hC hm=>?_,fun g hg=>let⟨M,a,b⟩:=hs.KE g hg;⟨M,GI _ _ a,b⟩,fun x hx=>?_⟩⟩
 ·rw[Bp.same i (by have:=Nn.1;omega)];exact hs.old i hi
 ·rw[Bp.size]
  show x<S.size+1∧_
  unfold Bb at hx
  split at hx
  ·cases hx;exact⟨by omega,(hs.Dj b L hb).2⟩
  have:=hs.Dj x M hx;omega
 ·rcases aH x C hC with ⟨rfl,rfl⟩|⟨Ac,rfl,rfl⟩|⟨Ac,RH,Ir⟩
  ·have hM:M=⟨L.r,L.d+o,L.Lh,L.z⟩:=by rw[Ju]at hx;exact(Option.some.inj hx).symm
   subst hM
   refine⟨GY,e',fz,Bp.now,by rw[A4];exact g2,fun i v hv=>?_,g4,g5,(fun h=>nomatch h),g6.2⟩
   by_cases hi:i<old.length
   ·rw[List.getElem?_append_left hi]at hv
    obtain⟨v',p1,p2⟩:=g3 _ _ (hold i v hv)
    refine⟨v',?_,p2.mono GI⟩
    show GY[L.d+o+i]?=some v'
    rw[AD _ (by omega),show L.d+o+i=L.d+(o+i) by omega]
    exact p1
   rw[List.getElem?_append_right (by omega)]at hv
   obtain⟨v',p1,p2⟩:=Cg.get hv
   have DH:=(List.getElem?_eq_some_iff.1 hv).1
   refine⟨v',?_,p2.mono GI⟩
   show GY[L.d+o+i]?=some v'
   rw[Dm,if_pos (by omega),show L.d+o+i-(c.length+L.d)=i-old.length by omega]
   exact p1
  ·have hM:ρ x=some M:=by unfold Bb at hx;rw[if_neg Ac]at hx;exact hx
   rw[hb]at hM;cases hM
   refine(lM x L (.cells c e true false kin) hb (.inl (by simp[AF.ext])) ⟨arr,e',fz,h1,g2,g3,(by simp),g5,g6.1,fun h=>h.elim (fun e=>by cases e) (fun e=>by cases e)⟩ (fun c' e1 r' o' k' h _=>by cases h;rfl) (fun _=>⟨c,e,true,false,kin,rfl⟩)).mono GI
  have hM:ρ x=some M:=by unfold Bb at hx;rw[if_neg Ac]at hx;exact hx
  have Qv:=hs.Bn x M C hM Ir
  by_cases hr:M.r=L.r
  ·have hk:=Nn.2 x M C hM hr Ir RH
   have UM:∃c' e1 r' o' k',C= .cells c' e1 r' o' k':=by
    cases C with
    |cells c' e1 r' o' k'=>exact⟨_,_,_,_,_,rfl⟩
    |map _ _=>obtain⟨_,q,_⟩:=Qv;rw[hr,h1]at q;cases q
    |iter _ _=>have q:w.heap[M.r]?=_:=Qv;rw[hr,h1]at q;cases q
    |loop _ _ _ _ _ _ _ _=>obtain⟨_,_,_,q,_⟩:=Qv;rw[hr,h1]at q;cases q
    |defs _=>have q:w.heap[M.r]?=_:=Qv;rw[hr,h1]at q;cases q
    |Uv _=>obtain⟨_,_,_,_,_,q⟩:=Qv;rw[hr,h1]at q;cases q
   refine(lM x M C hM (.inl hk.2.2) Qv (fun c' e1 r' o' k' h _=>?_) (fun _=>UM)).mono GI
   subst h
   exact hk.2.1
  exact(lM x M C hM (.inr hr) Qv (fun _ _ _ _ _ _ h=>absurd h hr) (fun h=>absurd h hr)).mono GI
 ·rcases aH x C hC with ⟨rfl,rfl⟩|⟨Ac,rfl,rfl⟩|⟨Ac,RH,Ir⟩
  ·have hM:M=⟨L.r,L.d+o,L.Lh,L.z⟩:=by rw[Ju]at hx;exact(Option.some.inj hx).symm
   subst hM
   refine⟨Nn.1,fun y L' B' hy hr EC aq=>?_⟩
   have MK:ρ y=some L':=by unfold Bb at hy;rw[if_neg aq]at hy;exact hy
   rcases aH y B' EC with ⟨e1,_⟩|⟨_,rfl,rfl⟩|⟨_,Ug,g0⟩
   ·exact absurd e1 aq
   ·rw[hb]at MK;cases MK
    refine⟨by simp[AF.kin],rfl,?_⟩
    simp only[AF.ext,List.length_append]
    omega
   have hk:=Nn.2 y L' B' MK hr g0 Ug
   refine⟨by simp only[AF.kin,List.mem_cons];exact .inr hk.1,hk.2.1,?_⟩
   have:=hk.2.2
   simp only[AF.ext,List.length_append]at this ⊢
   omega
  ·simp[AF.Ux]at hm
  have hM:ρ x=some M:=by unfold Bb at hx;rw[if_neg Ac]at hx;exact hx
  have u5:=hs.own x M C hM Ir hm
  have vJ:M.r≠L.r:=by
   intro hr
   have:=(Nn.2 x M C hM hr Ir RH).2.1
   rw[hm]at this
   cases this
  refine⟨u5.1,fun y L' B' hy hr EC aq=>?_⟩
  rcases aH y B' EC with ⟨rfl,_⟩|⟨je,rfl,_⟩|⟨je,Ug,g0⟩
  ·rw[Ju]at hy;cases hy
   exact absurd hr.symm vJ
  ·have MK:ρ y=some L':=by unfold Bb at hy;rw[if_neg je]at hy;exact hy
   rw[hb]at MK;cases MK
   exact absurd hr.symm vJ
  have MK:ρ y=some L':=by unfold Bb at hy;rw[if_neg je]at hy;exact hy
  exact u5.2 y L' B' MK hr g0 aq
 have:=hs.no x hx
 refine⟨?_,by show x<S.size+1;omega⟩
 unfold Bb
 rw[if_neg (by omega)]
 exact this.1
end Go.Cm
namespace Go.Cm
open Go
variable{P:Program}{w0:Bi}
theorem size_zeroCells(z:Array Value)(n:Nat):(Builtin.zeroCells z n).size=n*z.size:=by simp[Builtin.zeroCells]
theorem n8{S:St}{size n:Nat}{x:Value}{l:List Value}(h:EN S size n x=some l):l.length=n*size:=by
 unfold EN at h
 split at h
 ·cases hz:Nat.beq n 0 with
  |false=>rw[hz]at h;cases h
  |true=>rw[hz]at h;cases h;have:=Bc hz;subst this;simp
 ·unfold MW at h
  split at h
  ·exact(IW _ _ _ h).1
  cases h
 ·cases hz:Nat.beq n 0 with
  |false=>rw[hz]at h;cases h
  |true=>rw[hz]at h;cases h;have:=Bc hz;subst this;simp
 ·cases hz:Nat.beq size 1 with
  |false=>rw[hz]at h;cases h
  |true =>
   rw[hz]at h
   have:=Bc hz;subst this
   rw[(IW _ _ _ h).1];simp
 cases h
theorem tc{elem:TypeId}{size need:Nat}(h:MB P elem size need=true):∃ei z,P.info? elem=some ei∧zeroV P elem=some z∧ei.bytes≤1024∧0<ei.bytes∧need≤Ae∧z.cells.size=size∧0<size:=by
 unfold MB at h
 split at h
 ·rename_i ei z FE hz
  simp only[Bool.and_eq_true]at h
  obtain⟨⟨⟨⟨a,b⟩,c⟩,d⟩,e⟩:=h
  refine⟨ei,z,FE,hz,Nat.le_of_ble_eq_true a,Gk b,Nat.le_of_ble_eq_true c,?_,Gk e⟩
  have:=Bc d
  rw[JM]at this
  simpa using this
 cases h
theorem AR3{α:Type}{n o:Nat}{c l:List α}(h:takeN n (CH o c)=some l):∀(i:Nat) v,l[i]?=some v→c[o+i]?=some v:=by
 obtain⟨h1,h2,h3⟩:=IW _ _ _ h
 intro i v hv
 have hi:i<n:=by rw[←h1];exact(List.getElem?_eq_some_iff.1 hv).1
 rw[h3,List.getElem?_take,if_pos hi,Ha,List.getElem?_drop]at hv
 exact hv
theorem AFP{ρ:AI}{S S':St}{w:World}(hs:AW P w0 ρ S w){b o size:Nat}{L:Loc}(hb:ρ b=some L){vs C2:List Value}(h:ft P S b o size vs=some S')(hv:AS ρ vs C2)
  (jU:L.z=size→size≠0→o+L.d+vs.length≤L.Lh):∃w',(storeCells ⟨L.r,o+L.d,none⟩ C2).run P w= .ok () w'∧AW P w0 ρ S' w':=by
 unfold ft at h
 split at h
 ·rename_i c e kin hB
  split at h
  ·rename_i z hz
   cases hg:(vs.all D9&&Nat.blt 0 vs.length&&Nat.beq o c.length&&Nat.beq z size&&Nat.blt 0 z)with
   |false=>rw[hg]at h;cases h
   |true =>
    rw[hg]at h
    cases h
    simp only[Bool.and_eq_true]at hg
    obtain⟨⟨⟨⟨g1,g2⟩,g3⟩,g4⟩,g5⟩:=hg
    have g3:=Bc g3
    have g4:=Bc g4
    have g5:=Gk g5
    subst g4
    obtain⟨arr,e',fz,h1,h2,h3,h4,h5⟩:=hs.Bn b L _ hb hB
    have iD:L.z=z:=by
     have:=h5.1 rfl
     rw[hz]at this
     exact(Option.some.inj this).symm
    have ht:=jU iD (by omega)
    have W8:∀v,v∈C2→v.oneCell'=true:=by
     intro v jY
     obtain⟨i,hi⟩:=List.getElem?_of_mem jY
     have Hh:i<vs.length:=by rw[hv.1];exact(List.getElem?_eq_some_iff.1 hi).1
     have jX:=List.getElem?_eq_getElem Hh
     have hr:=hv.2 i _ _ jX hi
     rw[hr.l8,←fL]
     exact List.all_eq_true.1 g1 _ (List.getElem_mem Hh)
    obtain⟨GY,w',a1,a2,a3,a4⟩:=cd (P:=P) C2 w arr (o+L.d) 0 h1 (by rw[←hv.1];omega) (fun j hj=>h4 rfl j (by omega)) W8
    refine⟨w',a1,?_⟩
    refine hs.put (B:= .cells c e true true kin) (B':= .cells (c++vs) e true true []) hb hB rfl a2 ⟨GY,e',fz,rfl,by omega,fun i v KJ=>?_,h4,h5.1,(fun hr=>nomatch hr),h5.2.2⟩
    rw[a4]
    by_cases BH:i<c.length
    ·rw[List.getElem?_append_left BH]at KJ
     rw[if_neg (by omega)]
     exact h3 i v KJ
    rw[List.getElem?_append_right (by omega)]at KJ
    obtain⟨v',x1,x2⟩:=hv.get KJ
    have hi:=(List.getElem?_eq_some_iff.1 x1).1
    rw[if_pos (by omega)]
    exact⟨v',by rw[show L.d+i-(o+L.d+0)=i-c.length by omega];exact x1,x2⟩
  cases h
 cases h
theorem AB3{ρ:AI}{S S':St}{w:World}(hs:AW P w0 ρ S w){ts:Array TypeId}{ty:TypeId}{s s' x x' v:Value}(h:Fx P ts.toList s x S=some (v,S'))(Je:VR ρ s s')(hx:VR ρ x x') :
  Gv P w0 ρ v S' ((Builtin.append_ ts ty #[s',x']).run P w):=by
 unfold Fx at h
 split at h
 case h_2=>cases h
 rename_i sT xT rest CT
 have h0:ts[0]?=some sT:=by rw[←Array.getElem?_toList,CT];rfl
 have h1:ts[1]?=some xT:=by rw[←Array.getElem?_toList,CT];rfl
 split at h
 case h_2=>cases h
 rename_i elem base len cap n xd hu hlen Nq
 cases HN:FV xd with
 |true=>rw[HN]at h;cases h
 |false =>
  rw[HN]at h
  simp only[cond_false]at h
  split at h
  case h_2=>cases h
  rename_i size A4
  split at h
  case h_2=>cases h
  rename_i new Cg
  have hl:=w5 (P:=P) hlen hx w
  obtain⟨KU,LC,IB⟩:=cz hs Cg hx (fun k hk=>by rw[hlen]at hk;cases hk;exact Nat.le_refl _)
  obtain⟨lk,aQ,Nl⟩:=cz hs.drew Cg hx (fun k hk=>by rw[hlen]at hk;cases hk;exact Nat.le_refl _)
  unfold Fw at h
  cases Dc:Nat.ble (len+n) cap with
  |true =>
   rw[Dc]at h
   simp only[cond_true]at h
   have hle:=Nat.le_of_ble_eq_true Dc
   unfold Tv at h
   split at h
   ·cases h
    cases Je
    exact⟨ρ,_,w,AJ2 h0 h1 hu Nq HN A4 hl LC hle,Ext.refl _,(by obtain rfl:n=0:=(by omega);exact .JA),hs⟩
   ·rename_i b o
    cases Je with
    |slice hb O8 hc hr ho =>
     rename_i o' c' L
     cases hz:Nat.beq new.length 0 with
     |true =>
      rw[hz]at h
      simp only[cond_true,Option.some.injEq,Prod.mk.injEq]at h
      obtain⟨rfl,rfl⟩:=h
      have W7:KU= []:=by
       have:=IB.1
       rw[Bc hz]at this
       exact List.eq_nil_of_length_eq_zero this.symm
      subst W7
      exact⟨ρ,_,w,YC h0 h1 hu Nq HN A4 hl LC (by omega) (by simp[storeCells]),Ext.refl _,.slice hb (by omega) hc hr ho,hs⟩
     |false =>
      rw[hz]at h
      simp only[cond_false]at h
      split at h
      ·rename_i S1 hw
       cases h
       have IC:o'=o+L.d:=by
        rcases ho with ho|ho
        ·exact ho
        exfalso
        have h2:n=0:=by omega
        subst h2
        have:new.length=0:=by rw[n8 Cg];simp
        rw[this]at hz
        cases hz
       subst IC
       obtain⟨w',a1,a2⟩:=eF hs hb hw IB
       have V3:(storeCells (Addr.add ⟨L.r,o+L.d,none⟩ (len*size)) KU).run P w= .ok () w':=by
        rw[Addr.add_lit,show o+L.d+len*size=o+len*size+L.d by omega];exact a1
       exact⟨ρ,_,w',YC h0 h1 hu Nq HN A4 hl LC (by omega) V3,Ext.refl _,.slice hb (by omega) hc hr (.inl rfl),a2⟩
      split at h
      ·rename_i S1 hw
       cases h
       have Cb:=n8 Cg
       have IC:o'=o+L.d:=by
        rcases ho with ho|ho
        ·exact ho
        exfalso
        have h2:n=0:=by omega
        subst h2
        have:new.length=0:=by rw[Cb];simp
        rw[this]at hz
        cases hz
       subst IC
       obtain⟨w',a1,a2⟩:=AFP hs hb hw IB (fun Uh hz2=>by
        have h3:=hr (by rw[Uh];exact hz2)
        rw[Uh]at h3
        rw[Cb]
        have h4:(len+n)*size≤c'*size:=Nat.mul_le_mul_right _ (by omega)
        rw[Nat.add_mul]at h4
        omega)
       have V3:(storeCells (Addr.add ⟨L.r,o+L.d,none⟩ (len*size)) KU).run P w= .ok () w':=by
        rw[Addr.add_lit,show o+L.d+len*size=o+len*size+L.d by omega];exact a1
       exact⟨ρ,_,w',YC h0 h1 hu Nq HN A4 hl LC (by omega) V3,Ext.refl _,.slice hb (by omega) hc hr (.inl rfl),a2⟩
      cases h
   rename_i b o k
   cases hz:(Nat.beq new.length 0&&(Nat.beq (len+n) 0&&Nat.beq cap 0))with
   |false=>rw[hz]at h;cases h
   |true =>
    rw[hz]at h
    simp only[cond_true,Option.some.injEq,Prod.mk.injEq]at h
    obtain⟨rfl,rfl⟩:=h
    simp only[Bool.and_eq_true]at hz
    have W7:KU= []:=by
     have:=IB.1
     rw[Bc hz.1]at this
     exact List.eq_nil_of_length_eq_zero this.symm
    subst W7
    have Nk:=Bc hz.2.1
    obtain rfl:n=0:=by omega
    cases Je
    exact⟨ρ,_,w,YC h0 h1 hu Nq HN A4 hl LC (by omega) (by simp[storeCells]),Ext.refl _,.Lg _ _ _ _,hs⟩
  |false =>
   rw[Dc]at h
   simp only[cond_false]at h
   have uV:¬(len+n≤cap):=fun e=>by rw[Nat.ble_eq_true_of_le e]at Dc;cases Dc
   cases hg:(MB P elem size (len+n)&&Fw.Ol new)with
   |false=>rw[hg]at h;cases h
   |true =>
    rw[hg]at h
    simp only[cond_true]at h
    rw[Bool.and_eq_true]at hg
    obtain⟨ei,z,FE,hz,MF,K5,Hk,XN,LG⟩:=tc hg.1
    have Cb:=n8 Cg
    have W8:∀v,v∈KU→v.oneCell'=true:=by
     intro v hv
     obtain⟨i,hi⟩:=List.getElem?_of_mem hv
     have Hh:i<new.length:=by rw[IB.1];exact(List.getElem?_eq_some_iff.1 hi).1
     rw[(IB.2 i _ _ (List.getElem?_eq_getElem Hh) hi).l8,←fL]
     exact List.all_eq_true.1 hg.2 _ (List.getElem_mem Hh)
    unfold OZ at h
    split at h
    ·-- nil
     cases GL:Nat.beq len 0 with
     |false=>rw[GL]at h;cases h
     |true =>
      rw[GL]at h
      simp only[cond_true,Option.some.injEq]at h
      cases Je
      obtain⟨BM,Fj,Dq⟩:=m5 (P:=P) (ty:=ty) (base:=none) (old:=[]) (len:=0) (cap:=0) h0 h1 hu Nq HN A4 hl (by simp[Builtin.firstCells]) aQ uV FE hz MF K5 Hk
      have AQ:=Xd hs.drew (c:=new) (arr:=(#[]++lk.toArray++Builtin.zeroCells z.cells (BM-(0+n)))) (e:=elem) (e':=elem) (z:=size) (fun i y hy=>by
       obtain⟨y',p1,p2⟩:=Nl.get hy
       refine⟨y',?_,p2⟩
       have hi:=(List.getElem?_eq_some_iff.1 p1).1
       rw[Array.getElem?_append_left (by simpa using hi)]
       simpa using p1) (fun _=>rfl) A4 (n:=n) (k:=n) (k':=BM) (Nat.le_refl _) (by omega) (fun _=>by
        simp only[Array.size_append,size_zeroCells,XN,List.size_toArray,←Nl.1,Cb]
        have:BM*size=n*size+(BM-n)*size:=by rw[←Nat.add_mul];congr 1;omega
        simp;omega)
      obtain⟨ρ',b1,b2,b3⟩:=AQ
      cases h
      exact⟨ρ',_,_,Dq,b1,(by rw[Nat.zero_add];exact b3),b2⟩
    ·-- without room
     cases GL:Nat.beq len 0 with
     |false=>rw[GL]at h;cases h
     |true =>
      rw[GL]at h
      simp only[cond_true,Option.some.injEq]at h
      cases Je
      rename_i a
      obtain⟨BM,Fj,Dq⟩:=m5 (P:=P) (ty:=ty) (base:=some a) (old:=[]) (len:=0) (cap:=0) h0 h1 hu Nq HN A4 hl (by simp[Builtin.firstCells,loadCells,loadCellsFrom]) aQ uV FE hz MF K5 Hk
      have AQ:=Xd hs.drew (c:=new) (arr:=(#[]++lk.toArray++Builtin.zeroCells z.cells (BM-(0+n)))) (e:=elem) (e':=elem) (z:=size) (fun i y hy=>by
       obtain⟨y',p1,p2⟩:=Nl.get hy
       refine⟨y',?_,p2⟩
       have hi:=(List.getElem?_eq_some_iff.1 p1).1
       rw[Array.getElem?_append_left (by simpa using hi)]
       simpa using p1) (fun _=>rfl) A4 (n:=n) (k:=n) (k':=BM) (Nat.le_refl _) (by omega) (fun _=>by
        simp only[Array.size_append,size_zeroCells,XN,List.size_toArray,←Nl.1,Cb]
        have:BM*size=n*size+(BM-n)*size:=by rw[←Nat.add_mul];congr 1;omega
        simp;omega)
      obtain⟨ρ',b1,b2,b3⟩:=AQ
      cases h
      exact⟨ρ',_,_,Dq,b1,(by rw[Nat.zero_add];exact b3),b2⟩
    rename_i b o
    split at h
    case h_2=>cases h
    rename_i c e kin hB
    split at h
    case h_2=>cases h
    rename_i old hold
    cases JY:(Nat.beq e elem&&Nat.beq (o+len*size) c.length)with
    |false=>rw[JY]at h;cases h
    |true =>
     rw[JY]at h
     simp only[cond_true]at h
     rw[Bool.and_eq_true]at JY
     have he:=Bc JY.1
     subst he
     have ia:=Bc JY.2
     cases Je with
     |slice hb O8 aG hr ho =>
      rename_i o' c' L
      have AGm:=(IW _ _ _ hold).1
      have iD:L.z=size:=by
       obtain⟨_,_,_,_,_,_,_,g5,_⟩:=hs.Bn _ _ _ hb hB
       have:=g5 rfl
       rw[A4]at this
       exact(Option.some.inj this).symm
      cases h
      by_cases hf:len+n≤c'
      ·have IC:o'=o+L.d:=by
        rcases ho with ho|ho
        ·exact ho
        omega
       subst IC
       obtain⟨arr,e',fz,g1,g2,g3,g4,g5,g6⟩:=hs.Bn _ _ _ hb hB
       have aU:o+L.d+len*size+KU.length≤arr.size:=by
        have h3:=hr (by omega)
        rw[iD]at h3
        have h4:(len+n)*size≤c'*size:=Nat.mul_le_mul_right _ hf
        rw[Nat.add_mul]at h4
        rw[g2,←IB.1,Cb]
        omega
       obtain⟨GY,w',a1,a2,a3,a4⟩:=cd (P:=P) KU w arr (o+L.d+len*size) 0 g1 (by omega) (fun j hj=>g4 rfl j (by omega)) W8
       have BH:=AHf hs hb hB (o:=o) (old:=old) (new:=new) (by omega) (AR3 hold) a2 g1 a3 IB (fun j=>by
        rw[a4 j,show o+L.d+len*size+0=c.length+L.d by omega])
       refine⟨_,_,w',YC h0 h1 hu Nq HN A4 hl LC hf (by rw[Addr.add_lit];exact a1),BH.1,?_,BH.2⟩
       exact VR.slice (L:=⟨L.r,L.d+o,L.Lh,L.z⟩) (Ju _ _ _) (Nat.le_refl _) hf hr (.inl (by show o+L.d=0+(L.d+o);omega))
      obtain⟨AI',p1,p2⟩:=AJA (P:=P) hs.drew hb hB hold o' len c' (by
       rcases ho with ho|ho
       ·exact .inl ho
       exact .inr (by omega))
      obtain⟨BM,Fj,Dq⟩:=m5 (P:=P) (ty:=ty) h0 h1 hu Nq HN A4 hl p1 aQ hf FE hz MF K5 Hk
      have K8:=AF3 hs.drew hb hB
      have UM:=ll (P:=P) (e:=e) (e':=e) (row:=true) (kin:=b::kin) (z:=size) (c:=old++new) (arr:=AI'.toArray++lk.toArray++Builtin.zeroCells z.cells (BM-(len+n))) K8 (fun i y hy=>by
       obtain⟨y',q1,q2⟩:=(p2.append Nl).get hy
       refine⟨y',?_,q2⟩
       have hi:=(List.getElem?_eq_some_iff.1 q1).1
       rw[Array.getElem?_append_left (by simpa using hi)]
       simpa using q1) (fun _=>A4) (by simp) (fun _=>rfl)
      refine⟨_,_,_,Dq,UM.1,?_,UM.2⟩
      refine VR.slice (L:=⟨w.drew.heap.size,0,_,size⟩) (Ju _ _ _) (Nat.le_refl _) Fj (fun _=>?_) (.inl rfl)
      simp only[Array.size_append,size_zeroCells,XN,List.size_toArray,←Nl.1,←p2.1,Cb,AGm]
      have:BM*size=len*size+n*size+(BM-(len+n))*size:=by rw[←Nat.add_mul,←Nat.add_mul];congr 1;omega
      omega
end Go.Cm
namespace Go.Cm
open Go
variable{P:Program}{w0:Bi}
theorem Gv.same{ρ:AI}{S:St}{w:World}(hs:AW P w0 ρ S w){v v':Value}{r:Result Value}(h:r= .ok v' w)(hv:VR ρ v v'):Gv P w0 ρ v S r:=⟨ρ,v',w,h,Ext.refl _,hv,hs⟩
theorem wrap_small{n:Int}(h0:0≤n)(h1:n<9223372036854775808):IntKind.i64.wrap n=n:=by
 have e:n%(2 ^ IntKind.i64.bits:Int)=n:=Int.emod_eq_of_lt h0 (by show n<18446744073709551616;omega)
 simp only[IntKind.wrap,e]
 rw[if_neg]
 simp only[Bool.and_eq_true,decide_eq_true_eq,not_and]
 intro _
 show ¬(9223372036854775808≤n)
 omega
theorem AIX{ρ:AI}{S S':St}{w:World}(hs:AW P w0 ρ S w){t:TypeId}{l c l' c' v:Value}(h:Uu P t l c S=some (v,S'))(hl:VR ρ l l')(hc:VR ρ c c'):Gv P w0 ρ v S' ((Instr.makeSlice t l' c').run P w):=by
 unfold Uu at h
 split at h
 case h_2=>cases h
 rename_i elem k1 ln k2 cp hu
 cases hl;cases hc
 split at h
 case h_2=>cases h
 rename_i ei FE
 split at h
 case h_2=>cases h
 rename_i z hz
 split at h
 case isFalse=>cases h
 rename_i hle
 obtain⟨a1,a2,a3,a4,a5⟩:=hle
 have jj:z.cells.size=ei.size:=by rw[JM]at a5;simpa using a5
 have A4:A5 P elem=some ei.size:=by unfold A5;rw[FE]
 have w1:IntKind.i64.wrap ln=ln:=wrap_small (by omega) (by have h9:=a3;simp only[Ae,Nat.reducePow]at h9;omega)
 have w2:IntKind.i64.wrap cp=cp:=wrap_small (by omega) (by have h9:=a3;simp only[Ae,Nat.reducePow]at h9;omega)
 have b1:(ei.bytes:Int)*cp≤1024*1073741824:=by
  have h1:(ei.bytes:Int)≤1024:=by omega
  have h2:cp≤1073741824:=by have h9:=a3;simp only[Ae,Nat.reducePow]at h9;omega
  exact Int.mul_le_mul h1 h2 (by omega) (by omega)
 have Cb:(decide (cp<0)||decide ((ei.bytes:Int)*cp>2 ^ 48))=false :=
  Bool.or_eq_false_iff.2 ⟨decide_eq_false (by omega),decide_eq_false (by omega)⟩
 have Ns:=Yq (ρ:=ρ) hz cp.toNat (cp.toNat*ei.size) (by rw[jj])
 obtain⟨ρ',d1,d2,d3⟩:=Xd hs (c:=EE cp.toNat (BG z)) (arr:=(Array.range (cp.toNat*ei.size)).map (fun i=>z.cells[i%z.cells.size]!)) (e:=elem) (e':=elem) (z:=ei.size)
  (fun i y hy=>by obtain⟨y',p1,p2⟩:=Ns.get hy;exact⟨y',by rw[←Array.getElem?_toList];exact p1,p2⟩) (fun _=>rfl) A4 (n:=ln.toNat) (k:=cp.toNat) (k':=cp.toNat) (by omega) (Nat.le_refl _) (fun _=>by simp)
 cases h
 refine⟨ρ',_,_,?_,d1,d3,d2⟩
 have AGN:(decide (cp<0)||decide ((ei.bytes:Int)*cp>2 ^ 48)||decide (ln<0)||decide (ln>cp))=false:=by
  rw[Cb]
  exact Bool.or_eq_false_iff.2 ⟨Bool.or_eq_false_iff.2 ⟨rfl,decide_eq_false (by omega)⟩,decide_eq_false (by omega)⟩
 unfold Instr.makeSlice
 simp only[Sem.run_bind,A3 w hu,Result.andThen_ok,asInt,asIntOf,Sem.run_pure,MZ w FE,w1,w2]
 rw[if_neg (by rw[AGN];simp)]
 simp only[Sem.run_bind,Result.andThen_ok,run_askRoom,FZ w A4]
 by_cases h0:cp.toNat*ei.size=0
 ·rw[if_pos h0]
  have e1:Array.map (fun x=>(#[]:Array Value)[x%(#[]:Array Value).size]!) (Array.range (cp.toNat*ei.size))=Array.map (fun i=>z.cells[i%z.cells.size]!) (Array.range (cp.toNat*ei.size)):=by rw[h0];simp
  simp only[Sem.run_bind,Sem.run_pure,Result.andThen_ok]
  rw[e1]
  simp[newRow]
 rw[if_neg h0]
 simp only[Sem.run_bind,Ka w hz,Sem.run_pure,Result.andThen_ok]
 simp[newRow]
mutual
theorem Pj:∀(n:Nat) (a b:Value),CP n a b=true→a=b
 |0,a,b,h=>by simp[CP]at h
 |n+1,a,b,h=>by
  cases a<;>cases b<;>first
   |rfl
   |(simp[CP]at h;done)
   |(simp[CP]at h;simp[h];done)
   |(simp only[CP,Bool.and_eq_true,decide_eq_true_eq]at h;obtain⟨rfl,rfl⟩:=h;rfl)
   |(rename_i x y;simp only[CP,YL,beq_iff_eq]at h;congr 1;apply ByteArray.ext;apply Array.ext';exact h)
   |(rename_i x n1 c1 y n2 c2;simp only[CP,Bool.and_eq_true,decide_eq_true_eq]at h;obtain⟨⟨rfl,h2⟩,h3⟩:=h;rw[Bc h2,Bc h3])
   |(rename_i x y;simp only[CP]at h;congr 1;apply Array.ext';exact R6 n _ _ h)
   |(rename_i t x u y;simp only[CP,Bool.and_eq_true]at h;rw[Bc h.1,Pj n _ _ h.2])
   |(rename_i f x1 x2 g y1 y2;simp only[CP,Bool.and_eq_true,decide_eq_true_eq]at h;obtain⟨⟨rfl,h2⟩,h3⟩:=h;congr 1;exact Array.ext' (R6 n _ _ h2);exact Array.ext' (R6 n _ _ h3))
theorem R6:∀(n:Nat) (a b:List Value),Gp n a b=true→a=b
 |0,a,b,h=>by simp[Gp]at h
 |n+1,[],[],_=>rfl
 |n+1,[],_::_,h=>by simp[Gp]at h
 |n+1,_::_,[],h=>by simp[Gp]at h
 |n+1,x::a,y::b,h=>by
  simp only[Gp,Bool.and_eq_true]at h
  rw[Pj n _ _ h.1,R6 n _ _ h.2]
end
end Go.Cm
namespace Go.Cm
open Go
variable{P:Program}{w0:Bi}
theorem YM{w:World}{r:Nat}{o o':Obj}(h:w.heap[r]?=some o)(O8:∀c e f,o≠ .cells c e f):∃w',(setObj r o').run P w= .ok () w'∧Kr r o' w w':=by
 have hr:r<w.heap.size:=(Array.getElem?_eq_some_iff.1 h).1
 refine⟨{w with heap:=w.heap.setIfInBounds r o'},?_,⟨fun k hk=>?_,?_,by simp,rfl,rfl⟩⟩
 ·cases o<;>first
   |exact absurd rfl (O8 _ _ _)
   |simp[setObj,Sem.run,h]
 ·show(w.heap.setIfInBounds r o')[k]?=_
  rw[Array.getElem?_setIfInBounds,if_neg (fun e=>hk e.symm)]
 show(w.heap.setIfInBounds r o')[r]?=_
 rw[Array.getElem?_setIfInBounds,if_pos rfl,if_pos hr]
theorem X7{ρ:AI}:∀(n:Nat) (k v':Value),plainKey n k=true→VR ρ k v'→v'=k
 |n,.bool _,_,_,h=>by cases h;rfl
 |n,.int _ _,_,_,h=>by cases h;rfl
 |n,.string _,_,_,h=>by cases h;rfl
 |n+1,.agg ⟨cs⟩,v',hp,h=>by
  obtain⟨a',rfl,hr⟩:=h.NG
  congr 1
  apply Array.ext'
  simp only[plainKey]at hp
  apply List.ext_getElem?
  intro i
  have RJ:∀x,x∈cs→plainKey n x=true:=by simpa using hp
  by_cases hi:i<cs.length
  ·have hx:=List.getElem?_eq_getElem hi
   obtain⟨x',h1,h2⟩:=hr.get (i:=i) (v:=cs[i]) hx
   rw[h1,hx,X7 n _ _ (RJ _ (List.getElem_mem hi)) h2]
  have hl:=hr.1
  rw[List.getElem?_eq_none (by rw[←hl];exact Nat.le_of_not_lt hi),List.getElem?_eq_none (Nat.le_of_not_lt hi)]
 |0,.agg _,_,hp,_=>by simp[plainKey]at hp
 |n,.float _ _,_,hp,_=>by cases n<;>simp[plainKey]at hp
 |n,.complex _ _ _,_,hp,_=>by cases n<;>simp[plainKey]at hp
 |n,.pointer _,_,hp,_=>by cases n<;>simp[plainKey]at hp
 |n,.slice _ _ _,_,hp,_=>by cases n<;>simp[plainKey]at hp
 |n,.map _,_,hp,_=>by cases n<;>simp[plainKey]at hp
 |n,.chan _,_,hp,_=>by cases n<;>simp[plainKey]at hp
 |n,.func _ _ _,_,hp,_=>by cases n<;>simp[plainKey]at hp
 |n,.nilFunc,_,hp,_=>by cases n<;>simp[plainKey]at hp
 |n,.iface _ _,_,hp,_=>by cases n<;>simp[plainKey]at hp
 |n,.nilIface,_,hp,_=>by cases n<;>simp[plainKey]at hp
 |n,.tuple _,_,hp,_=>by cases n<;>simp[plainKey]at hp
theorem nh:∀(n N:Nat) (k:Value),n≤N→plainKey n k=true→Instr.sameBits N k k=true
 |n,N,.bool _,_,_=>by simp[Instr.sameBits]
 |n,N,.int _ _,_,_=>by simp[Instr.sameBits]
 |n,N,.string _,_,_=>by simp[Instr.sameBits,beq_toListBytes]
 |n+1,N,.agg ⟨cs⟩,hN,hp=>by
  obtain⟨N,rfl⟩:∃M,N=M+1:=⟨N-1,by omega⟩
  have RJ:∀x,x∈cs→plainKey n x=true:=by simpa [plainKey]using hp
  have:∀l:List Value,(∀x,x∈l→plainKey n x=true)→(l.zip l).all (fun x=>Instr.sameBits N x.1 x.2)=true:=by
   intro l
   induction l with
   |nil=>simp
   |cons x l ih =>
    intro hl
    simp only[List.zip_cons_cons,List.all_cons,Bool.and_eq_true]
    exact⟨nh n N x (by omega) (hl x (by simp)),ih fun y hy=>hl y (by simp[hy])⟩
  simp only[Instr.sameBits,beq_self_eq_true,Bool.true_and]
  exact this cs RJ
 |0,N,.agg _,_,hp=>by simp[plainKey]at hp
 |n,N,.float _ _,_,hp=>by cases n<;>simp[plainKey]at hp
 |n,N,.complex _ _ _,_,hp=>by cases n<;>simp[plainKey]at hp
 |n,N,.pointer _,_,hp=>by cases n<;>simp[plainKey]at hp
 |n,N,.slice _ _ _,_,hp=>by cases n<;>simp[plainKey]at hp
 |n,N,.map _,_,hp=>by cases n<;>simp[plainKey]at hp
 |n,N,.chan _,_,hp=>by cases n<;>simp[plainKey]at hp
 |n,N,.func _ _ _,_,hp=>by cases n<;>simp[plainKey]at hp
 |n,N,.nilFunc,_,hp=>by cases n<;>simp[plainKey]at hp
 |n,N,.iface _ _,_,hp=>by cases n<;>simp[plainKey]at hp
 |n,N,.nilIface,_,hp=>by cases n<;>simp[plainKey]at hp
 |n,N,.tuple _,_,hp=>by cases n<;>simp[plainKey]at hp
theorem ni:∀(es:List MapEntry) (i:Nat) (k v:Value) (j:Nat),(HS es i k v)[j]?=if i=j then(es[j]?).map (fun e=>{e with key:=k,val:=v})else es[j]?
 | [],i,k,v,j=>by simp[HS]
 |e::es,0,k,v,0=>by simp[HS]
 |e::es,0,k,v,j+1=>by simp[HS]
 |e::es,i+1,k,v,0=>by simp[HS]
 |e::es,i+1,k,v,j+1=>by simp[HS,ni es i k v j]
theorem nj:∀(es:List MapEntry) (i:Nat) (k v:Value),(HS es i k v).length=es.length
 | [],i,k,v=>by simp[HS]
 |e::es,0,k,v=>by simp[HS]
 |e::es,i+1,k,v=>by simp[HS,nj es i k v]
theorem xQ{ρ:AI}{S S':St}{w:World}(hs:AW P w0 ρ S w){t:TypeId}{m k v m' k' v':Value}(h:Uw P t m k v S=some S')(hm:VR ρ m m')(hk:VR ρ k k')(hv:VR ρ v v') :
  ∃w',(Instr.mapUpdate t m' k' v').run P w= .ok () w'∧AW P w0 ρ S' w':=by
 unfold Uw at h
 split at h
 case h_2=>cases h
 rename_i key elem r hu
 split at h
 case h_2=>cases h
 rename_i es clock hB
 split at h
 case isFalse=>cases h
 rename_i Hi
 rw[Bool.and_eq_true]at Hi
 cases hm with
 |map hb =>
  rename_i L
  obtain⟨BP,h1,h2⟩:=hs.Bn _ _ _ hb hB
  have hg:(getObj L.r).run P w= .ok (.map BP.toArray clock) w:=by simp[getObj,Sem.run,h1]
  have Cz:=XW (P:=P) (ρ:=ρ) false 20 10000 key k k' w (by decide) Hi.1 hk
  obtain⟨d,hd⟩:=lO Hi.1
  have ir:=X7 20 k k' Hi.2 hk
  subst ir
  split at h
  ·rename_i i v0 hf
   split at h
   case h_2=>cases h
   rename_i e FE
   cases Jc:CP 1000 e.key k' with
   |false=>rw[Jc]at h;cases h
   |true =>
    rw[Jc]at h
    simp only[cond_true,Option.some.injEq]at h
    subst h
    obtain⟨q,a,b⟩:=T8 hk w h2 hf hd
    cases q with
    |none=>exact b.elim
    |some y =>
     obtain⟨j,vj⟩:=y
     obtain⟨rfl,vT⟩:=b
     rw[CE]at FE
     have Hh:=(List.getElem?_eq_some_iff.1 FE).1
     obtain⟨e2,KI⟩:∃e2,BP[i]?=some e2:=⟨_,List.getElem?_eq_getElem (by rw[←h2.1];exact Hh)⟩
     have K7:=h2.2 i e _ FE KI
     have iX:e2.key=k':=by
      have h3:=Pj _ _ _ Jc
      have h4:=K7.1
      rw[h3]at h4
      exact X7 20 k' _ Hi.2 h4
     obtain⟨w',p1,p2⟩:=YM (P:=P) (o':= .map (BP.toArray.modify i fun e=>{e with key:=k',val:=v'}) clock) h1 (by simp)
     refine⟨w',?_,?_⟩
     ·have G2:(Instr.keyThatStays k' k').run P w= .ok k' w:=by simp[Instr.keyThatStays,nh 20 10000 k' (by decide) Hi.2]
      have ik:((BP.toArray[i]?).map (·.key)).getD k'=k':=by
       have:BP.toArray[i]?=some e2:=by simpa using KI
       rw[this];exact iX
      simp only[Instr.mapUpdate,Sem.run_bind,A3 w hu,Result.andThen_ok,hg,Cz,a,ik,G2,p1]
     have Bp:=hs.put (B:= .map es clock) (B':= .map (HS es i k' v) clock) hb hB rfl p2 ⟨(BP.toArray.modify i fun e=>{e with key:=k',val:=v'}).toList,by simp,by
       refine⟨by rw[nj];simpa using h2.1,fun x a a' hx CS=>?_⟩
       rw[ni]at hx
       rw[Array.getElem?_toList,Array.getElem?_modify]at CS
       have KO:BP.toArray[x]?=BP[x]?:=by simp
       rw[KO]at CS
       by_cases O6:i=x
       ·subst O6
        rw[if_pos rfl,FE]at hx
        rw[if_pos rfl,KI]at CS
        cases hx;cases CS
        exact⟨hk,hv,K7.2.2⟩
       rw[if_neg O6]at hx CS
       exact h2.2 x a a' hx CS⟩
     exact Bp
  ·rename_i hf
   cases h
   obtain⟨q,a,b⟩:=T8 hk w h2 hf hd
   cases q with
   |some y=>exact b.elim
   |none =>
    obtain⟨w',p1,p2⟩:=YM (P:=P) (o':= .map (BP.toArray.push {key:=k',val:=v',born:=clock}) (clock+1)) h1 (by simp)
    refine⟨w',by simp only[Instr.mapUpdate,Sem.run_bind,A3 w hu,Result.andThen_ok,hg,Cz,a,p1],?_⟩
    have Bp:=hs.put (B:= .map es clock) (B':= .map (es++[{key:=k',val:=v,born:=clock}]) (clock+1)) hb hB rfl p2 ⟨BP++[{key:=k',val:=v',born:=clock}],by simp,by
     refine⟨by simp[h2.1],fun x a a' hx CS=>?_⟩
     by_cases Ue:x<es.length
     ·rw[List.getElem?_append_left Ue]at hx
      rw[List.getElem?_append_left (by rw[←h2.1];exact Ue)]at CS
      exact h2.2 x a a' hx CS
     rw[List.getElem?_append_right (by omega)]at hx
     rw[List.getElem?_append_right (by rw[←h2.1];omega),←h2.1]at CS
     have:x-es.length=0:=by
      have:=(List.getElem?_eq_some_iff.1 hx).1
      simp at this;omega
     rw[this]at hx CS
     simp at hx CS
     subst hx;subst CS
     exact⟨hk,hv,rfl⟩⟩
    exact Bp
  cases h
theorem AIZ{ρ:AI}{S S':St}{w:World}(hs:AW P w0 ρ S w){t:TypeId}{m k m' k' x:Value}(h:la P t m k S=some (x,S'))(hm:VR ρ m m')(hk:VR ρ k k') :
  Gv P w0 ρ x S' ((Instr.mapEntry t m' k').run P w):=by
 unfold la at h
 split at h
 case h_2=>cases h
 rename_i key elem r hu
 split at h
 case h_2=>cases h
 rename_i es clock hB
 split at h
 case isFalse=>cases h
 rename_i Hi
 rw[Bool.and_eq_true]at Hi
 cases hm with
 |map hb =>
  rename_i L
  obtain⟨BP,h1,h2⟩:=hs.Bn _ _ _ hb hB
  have hg:(getObj L.r).run P w= .ok (.map BP.toArray clock) w:=by simp[getObj,Sem.run,h1]
  have Cz:=XW (P:=P) (ρ:=ρ) false 20 10000 key k k' w (by decide) Hi.1 hk
  obtain⟨d,hd⟩:=lO Hi.1
  have ir:=X7 20 k k' Hi.2 hk
  subst ir
  split at h
  ·rename_i i v0 hf
   split at h
   case h_2=>cases h
   rename_i e FE
   cases Jc:CP 1000 e.key k' with
   |false=>rw[Jc]at h;cases h
   |true =>
    rw[Jc]at h
    simp only[cond_true,Option.some.injEq,Prod.mk.injEq]at h
    obtain⟨rfl,rfl⟩:=h
    obtain⟨q,a,b⟩:=T8 hk w h2 hf hd
    cases q with
    |none=>exact b.elim
    |some y =>
     obtain⟨j,vj⟩:=y
     obtain⟨rfl,vT⟩:=b
     rw[CE]at FE
     have Hh:=(List.getElem?_eq_some_iff.1 FE).1
     obtain⟨e2,KI⟩:∃e2,BP[i]?=some e2:=⟨_,List.getElem?_eq_getElem (by rw[←h2.1];exact Hh)⟩
     have K7:=h2.2 i e _ FE KI
     have iX:e2.key=k':=by
      have h3:=Pj _ _ _ Jc
      have h4:=K7.1
      rw[h3]at h4
      exact X7 20 k' _ Hi.2 h4
     obtain⟨w',p1,p2⟩:=YM (P:=P) (o':= .map (BP.toArray.modify i fun e=>{e with key:=k'}) clock) h1 (by simp)
     refine⟨ρ,.tuple #[vj,goInt e2.born],w',?_,Ext.refl _,VR.tuple' (AS.cons vT (AS.cons ?_ .nil)),?_⟩
     ·have G2:(Instr.keyThatStays k' k').run P w= .ok k' w:=by simp[Instr.keyThatStays,nh 20 10000 k' (by decide) Hi.2]
      have h6:BP.toArray[i]?=some e2:=by simpa using KI
      have ik:((BP.toArray[i]?).map (·.key)).getD k'=k':=by
       rw[h6];exact iX
      have iP:((BP.toArray[i]?).map (fun x:MapEntry=>(x.born:Int))).getD 0=(e2.born:Int):=by
       rw[h6];rfl
      simp only[Instr.mapEntry,Sem.run_bind,A3 w hu,Result.andThen_ok,hg,Cz,a,ik,G2,p1,iP,Sem.run_pure]
     ·rw[K7.2.2]
      exact .int _ _
     have Bp:=hs.put (B:= .map es clock) (B':= .map (HS es i k' e.val) clock) hb hB rfl p2 ⟨(BP.toArray.modify i fun e=>{e with key:=k'}).toList,by simp,by
       refine⟨by rw[nj];simpa using h2.1,fun x a a' hx CS=>?_⟩
       rw[ni]at hx
       rw[Array.getElem?_toList,Array.getElem?_modify]at CS
       have KO:BP.toArray[x]?=BP[x]?:=by simp
       rw[KO]at CS
       by_cases O6:i=x
       ·subst O6
        rw[if_pos rfl,FE]at hx
        rw[if_pos rfl,KI]at CS
        cases hx;cases CS
        exact⟨hk,K7.2.1,K7.2.2⟩
       rw[if_neg O6]at hx CS
       exact h2.2 x a a' hx CS⟩
     exact Bp
  ·rename_i hf
   split at h
   case h_2=>cases h
   rename_i z hz
   cases h
   obtain⟨q,a,b⟩:=T8 hk w h2 hf hd
   cases q with
   |some y=>exact b.elim
   |none =>
    obtain⟨_,_,_,Iu⟩:=QR hz
    have hv:=Iu.refl ρ
    obtain⟨w',p1,p2⟩:=YM (P:=P) (o':= .map (BP.toArray.push {key:=k',val:=z,born:=clock}) (clock+1)) h1 (by simp)
    refine⟨ρ,_,w',by simp only[Instr.mapEntry,Sem.run_bind,A3 w hu,Result.andThen_ok,hg,Cz,a,Ka w hz,p1,Sem.run_pure];rfl,Ext.refl _,VR.tuple' (AS.cons hv (AS.cons (.int _ _) .nil)),?_⟩
    have Bp:=hs.put (B:= .map es clock) (B':= .map (es++[{key:=k',val:=z,born:=clock}]) (clock+1)) hb hB rfl p2 ⟨BP++[{key:=k',val:=z,born:=clock}],by simp,by
     refine⟨by simp[h2.1],fun x a a' hx CS=>?_⟩
     by_cases Ue:x<es.length
     ·rw[List.getElem?_append_left Ue]at hx
      rw[List.getElem?_append_left (by rw[←h2.1];exact Ue)]at CS
      exact h2.2 x a a' hx CS
     rw[List.getElem?_append_right (by omega)]at hx
     rw[List.getElem?_append_right (by rw[←h2.1];omega),←h2.1]at CS
     have:x-es.length=0:=by
      have:=(List.getElem?_eq_some_iff.1 hx).1
      simp at this;omega
     rw[this]at hx CS
     simp at hx CS
     subst hx;subst CS
     exact⟨hk,hv,rfl⟩⟩
    exact Bp
  cases h
theorem AAq{born:Int}{v:Value}:∀(es Oq:List MapEntry),dk born v es=some Oq→∃(i:Nat) (e:MapEntry),es[i]?=some e∧(e.born:Int)=born∧(∀(j:Nat) (e':MapEntry),j<i→es[j]?=some e'→(e'.born:Int)≠born) ∧
  Oq.length=es.length∧∀(j:Nat),Oq[j]?=if i=j then some {e with val:=v}else es[j]?
 | [],Oq,h=>by cases h
 |e::es,Oq,h=>by
  unfold dk at h
  split at h
  ·rename_i hb
   cases h
   refine⟨0,e,rfl,hb,fun j e' hj=>by omega,rfl,fun j=>?_⟩
   cases j with
   |zero=>simp
   |succ j=>simp
  rename_i hb
  split at h
  ·rename_i r hr
   cases h
   obtain⟨i,e0,a1,a2,a3,a4,a5⟩:=AAq es r hr
   refine⟨i+1,e0,by simpa using a1,a2,fun j e' hj he=>?_,by simp[a4],fun j=>?_⟩
   ·cases j with
    |zero=>simp at he;subst he;exact hb
    |succ j=>exact a3 j e' (by omega) (by simpa using he)
   cases j with
   |zero=>simp
   |succ j=>simpa using a5 j
  cases h
theorem AFF{ρ:AI}{S S':St}{w:World}(hs:AW P w0 ρ S w){t:TypeId}{m s v m' s' v':Value}(h:fg m s v S=some S')(hm:VR ρ m m')(hss:VR ρ s s')(hv:VR ρ v v') :
  ∃w',(Instr.entryStore t m' s' v').run P w= .ok () w'∧AW P w0 ρ S' w':=by
 unfold fg at h
 split at h
 case h_2=>cases h
 rename_i r k born
 split at h
 case h_2=>cases h
 rename_i es clock hB
 split at h
 case h_2=>cases h
 rename_i Oq BL
 cases h
 cases hss
 cases hm with
 |map hb =>
  rename_i L
  obtain⟨BP,h1,h2⟩:=hs.Bn _ _ _ hb hB
  have hg:(getObj L.r).run P w= .ok (.map BP.toArray clock) w:=by simp[getObj,Sem.run,h1]
  obtain⟨i,e,a1,a2,a3,a4,a5⟩:=AAq es Oq BL
  have Hh:=(List.getElem?_eq_some_iff.1 a1).1
  obtain⟨e2,KI⟩:∃e2,BP[i]?=some e2:=⟨_,List.getElem?_eq_getElem (by rw[←h2.1];exact Hh)⟩
  have K7:=h2.2 i e _ a1 KI
  have AGY:BP.toArray.findIdx? (fun e:MapEntry=>(e.born:Int)==born)=some i:=by
   rw[List.findIdx?_toArray,List.findIdx?_eq_some_iff_getElem]
   have ud:i<BP.length:=(List.getElem?_eq_some_iff.1 KI).1
   refine⟨ud,?_,fun j hj=>?_⟩
   ·have:BP[i]=e2:=by
     have:=List.getElem?_eq_getElem ud
     rw[KI]at this
     exact(Option.some.inj this).symm
    rw[this]
    have K5:e2.born=e.born:=K7.2.2
    simp[K5,a2]
   have O7:j<es.length:=by omega
   have aK:=List.getElem?_eq_getElem O7
   have HH:=List.getElem?_eq_getElem (show j<BP.length by omega)
   have K5:=(h2.2 j _ _ aK HH).2.2
   have:=a3 j _ hj aK
   rw[←K5]at this
   simpa using this
  obtain⟨w',p1,p2⟩:=YM (P:=P) (o':= .map (BP.toArray.modify i fun e=>{e with val:=v'}) clock) h1 (by simp)
  refine⟨w',by simp only[Instr.entryStore,Sem.run_bind,hg,Result.andThen_ok,asInt,asIntOf,Sem.run_pure,AGY,p1],?_⟩
  have Bp:=hs.put (B:= .map es clock) (B':= .map Oq clock) hb hB rfl p2 ⟨(BP.toArray.modify i fun e=>{e with val:=v'}).toList,by simp,by
   refine⟨by rw[a4];simpa using h2.1,fun x a a' hx CS=>?_⟩
   rw[a5]at hx
   rw[Array.getElem?_toList,Array.getElem?_modify]at CS
   have KO:BP.toArray[x]?=BP[x]?:=by simp
   rw[KO]at CS
   by_cases O6:i=x
   ·subst O6
    rw[if_pos rfl]at hx
    rw[if_pos rfl,KI]at CS
    cases hx;cases CS
    exact⟨K7.1,hv,K7.2.2⟩
   rw[if_neg O6]at hx CS
   exact h2.2 x a a' hx CS⟩
  exact Bp
theorem lb{ρ:AI}{isMax:Bool}{ty:TypeId}{ts:Array TypeId}:∀(r r':List Value) (x x' v:Value),PU isMax x r=some v→VR ρ x x'→AS ρ r r'→∀w:World,
  ∃v',(r'.foldlM (if isMax then Builtin.max2 else Builtin.min2) x').run P w= .ok v' w∧VR ρ v v'
 | [],r',x,x',v,h,hx,hr,w=>by
  cases hr.HR
  simp[PU]at h;subst h
  exact⟨x',by simp,hx⟩
 |y::r,r',x,x',v,h,hx,hr,w=>by
  obtain⟨y',cS,rfl,hy,FG⟩:=hr.cons_inv
  cases x<;>cases y<;>simp only[PU]at h<;>try (cases h;done)
  cases hx;cases hy
  obtain⟨v',a,b⟩:=lb (ty:=ty) (ts:=ts) r cS _ _ v h (.int _ _) FG w
  refine⟨v',?_,b⟩
  rw[List.foldlM_cons,Sem.run_bind]
  cases isMax<;>simp only[Builtin.min2,Builtin.max2,Bool.false_eq_true,if_true,if_false,Sem.run_pure,Result.andThen_ok]at a⊢ <;>exact a
end Go.Cm
namespace Go.Cm
open Go
variable{P:Program}{w0:Bi}
theorem fH{ρ:AI}:∀(l l':List Value) (bs:List UInt8),NQ l=some bs→AS ρ l l'→∃ns:List Int,l'=ns.map (Value.int .u8)∧bs=ns.map (fun n=>UInt8.ofNat n.toNat)
 | [],l',bs,h,hv=>by
  simp only[NQ,Option.some.injEq]at h
  subst h
  cases hv.HR
  exact⟨[],rfl,rfl⟩
 |v::l,l',bs,h,hv=>by
  obtain⟨v',l2,rfl,h1,h2⟩:=hv.cons_inv
  unfold NQ at h
  split at h
  ·rename_i he;cases he
  ·rename_i n r he
   cases he
   split at h
   ·rename_i bs2 hb
    cases h
    cases h1
    obtain⟨ns,rfl,rfl⟩:=fH _ _ _ hb h2
    exact⟨n::ns,rfl,rfl⟩
   cases h
  cases h
theorem AJf(ns:List Int):∀acc:ByteArray,ns.foldl (fun r n=>r.push (UInt8.ofNat n.toNat)) acc=⟨acc.data++(ns.map (fun n=>UInt8.ofNat n.toNat)).toArray⟩:=by
 induction ns with
 |nil=>intro acc;simp
 |cons n ns ih =>
  intro acc
  rw[List.foldl_cons,ih]
  have:(acc.push (UInt8.ofNat n.toNat)).data=acc.data.push (UInt8.ofNat n.toNat):=rfl
  rw[this]
  congr 1
  simp
theorem AFc{size n:Nat}{a:Addr}{k c:Nat}{w:World}{l:List Value}(h:(Builtin.firstCells size n (.slice (some a) k c)).run P w= .ok l.toArray w):(loadCells a (n*size)).run P w= .ok l.toArray w:=h
theorem ny{w:World}{r:Nat}{arr:Array Value}{e:TypeId}{fz:Nat×Nat}(h:w.heap[r]?=some (.cells arr e fz)):w.shape? r=some (e,arr.size):=by
 simp[World.shape?,h]
theorem AID{e:TypeId}(hc:P.cellsOf e=1)(count off n:Nat)(hn:off+n≤count):liesAt P P.depth e count off e n=true:=by
 have hd:P.depth=(2*(P.types.size+Made.depth)+1)+1:=rfl
 rw[hd]
 simp only[liesAt,Bool.or_eq_true]
 left
 rw[hd]
 simp[rowAt,hc,hn,sameLayout,Nat.mod_one]
theorem AEz{ρ:AI}{S S':St}{w:World}(hs:AW P w0 ρ S w){s d:TypeId}{x x' v:Value}(h:L4 P S s d x=some (v,S'))(hx:VR ρ x x'):Gv P w0 ρ v S' ((convert s d x').run P w):=by
 unfold L4 at h
 split at h
 ·rename_i d1 k k' n LH HM
  cases h;cases hx
  refine .same hs ?_ (.int _ _)
  simp only[convert,Sem.run_bind,A3 w LH,A3 w HM,Result.andThen_ok]
  cases d1<;>simp[Conv.intToInt]
 ·rename_i d1 b LH HM
  cases h;cases hx
  refine .same hs ?_ (.string _)
  simp only[convert,Sem.run_bind,A3 w LH,A3 w HM,Result.andThen_ok]
  cases d1<;>simp
 ·rename_i e n c LH HM
  split at h
  ·rename_i Ua
   cases h;cases hx
   exact .same hs (by simp[convert,A3 w LH,A3 w HM,A3 w Ua,Conv.bytesToString];rfl) (.string _)
  cases h
 ·rename_i e a n c LH HM
  split at h
  ·rename_i l Ua hl
   split at h
   ·rename_i bs hb
    cases h
    obtain⟨l',p,q⟩:=cz hs hl hx (fun k hk=>by simp only[F6,Option.some.injEq]at hk;omega)
    obtain⟨ns,rfl,rfl⟩:=fH _ _ _ hb q
    cases hx with
    |slice MF O8 hc hr ho =>
     rename_i bb oo o2 c2 L
     have p2:=AFc p
     rw[Nat.mul_one]at p2
     refine .same hs ?_ (.string _)
     have:=run_bytesToString (P:=P) w ⟨L.r,o2,none⟩ n c2 ns p2
     simp only[convert,Sem.run_bind,A3 w LH,A3 w HM,A3 w Ua,Result.andThen_ok]
     rw[this,AJf]
     show Result.ok (Value.string ⟨#[]++_⟩) w=_
     rw[Array.empty_append]
   cases h
  cases h
 ·rename_i t b o LH HM
  split at h
  ·rename_i n c e row own kin hn hB
   cases AN:Nat.blt o c.length with
   |false=>rw[AN]at h;cases h
   |true =>
    rw[AN]at h
    simp only[cond_true,Option.some.injEq,Prod.mk.injEq]at h
    obtain⟨rfl,rfl⟩:=h
    have AN:=Gk AN
    cases hx with
    |ptr hb =>
     rename_i L
     obtain⟨arr,e',fz,h1,h2,h3,h4,h5⟩:=hs.Bn _ _ _ hb hB
     obtain⟨i,hi,A4⟩:=Ye hn
     obtain⟨v',F1,_⟩:=h3 o _ (List.getElem?_eq_getElem AN)
     have ATL:=(Array.getElem?_eq_some_iff.1 F1).1
     exact .same hs (Lib.run_to_unsafe w ⟨L.r,o+L.d,none⟩ LH HM hi (by rw[A4];exact Nat.succ_ne_zero _) (ny h1) (by show o+L.d<arr.size;omega)) (.ptr hb)
  cases h
 ·rename_i u b o LH HM
  split at h
  ·rename_i n c e own kin hn hB
   cases AN:(!(Nat.beq e 0)&&liesAt P P.depth e (c.length/P.cellsOf e) o u 1)with
   |false=>rw[AN]at h;cases h
   |true =>
    rw[AN]at h
    simp only[cond_true,Option.some.injEq,Prod.mk.injEq]at h
    obtain⟨rfl,rfl⟩:=h
    simp only[Bool.and_eq_true,Bool.not_eq_true']at AN
    have Ww:e≠0:=fun e0=>by rw[e0]at AN;exact absurd AN.1 (by simp[Nat.beq_refl])
    cases hx with
    |ptr hb =>
     rename_i L
     obtain⟨arr,e',fz,h1,h2,h3,h4,h5,h6,h7⟩:=hs.Bn _ _ _ hb hB
     obtain⟨i,hi,A4⟩:=Ye hn
     obtain⟨_,hd,jU⟩:=h6 rfl
     have he:=h7 (.inr rfl) Ww
     subst he
     exact .same hs (Lib.run_from_unsafe w ⟨L.r,o+L.d,none⟩ LH HM hi (ny h1) (by rw[hd,h2,jU,Nat.add_zero];exact AN.2)) (.ptr hb)
  cases h
 cases h
theorem AEu{ρ:AI}{S S':St}{w:World}(hs:AW P w0 ρ S w){ty:TypeId}{ts:Array TypeId}{x x' v:Value}(h:fS P ts.toList x S=some (v,S'))(hx:VR ρ x x') :
  Gv P w0 ρ v S' ((Builtin.clear_ ts ty #[x']).run P w):=by
 unfold fS at h
 split at h
 case h_2=>cases h
 rename_i t rest CT
 have I0:ts[0]?=some t:=by rw[←Array.getElem?_toList,CT];rfl
 split at h
 case h_2=>cases h
 rename_i elem base n c hu
 cases hn:Nat.beq n 0 with
 |true =>
  rw[hn]at h
  simp only[cond_true,Option.some.injEq,Prod.mk.injEq]at h
  obtain⟨rfl,rfl⟩:=h
  have US:=Bc hn
  subst US
  refine .same hs ?_ (VR.tuple' (l:=[]) (l':=[]) AS.nil)
  cases hx<;>simp[Builtin.clear_,I0,A3 w hu]
 |false =>
  rw[hn]at h
  simp only[cond_false]at h
  split at h
  case h_2=>cases h
  rename_i b o z hz
  split at h
  case h_2=>cases h
  rename_i S1 hw
  simp only[Option.some.injEq,Prod.mk.injEq]at h
  obtain⟨rfl,rfl⟩:=h
  cases hx with
  |slice hb O8 hc hr ho =>
   rename_i o' c' L
   have hnz:n≠0:=fun e=>by subst e;cases hn
   have IC:o'=o+L.d:=by
    rcases ho with ho|ho
    ·exact ho
    omega
   subst IC
   have Ns:=Yq (ρ:=ρ) hz n (n*z.cells.size) rfl
   obtain⟨w',a1,a2⟩:=eF hs hb hw Ns
   refine⟨ρ,_,w',?_,Ext.refl _,VR.tuple' (l:=[]) (l':=[]) AS.nil,a2⟩
   obtain⟨m,rfl⟩:∃m,n=m+1:=⟨n-1,by omega⟩
   have V3:(storeCells ⟨L.r,o+L.d,none⟩ (Builtin.zeroCells z.cells (m+1)).toList).run P w= .ok () w':=a1
   simp[Builtin.clear_,I0,A3 w hu,Ka w hz,V3]
theorem AE0{ρ:AI}{S S':St}{w:World}(hs:AW P w0 ρ S w){ty:TypeId}{ts:Array TypeId}{d d' x x' v:Value}(h:copyV P ts.toList d x S=some (v,S'))(hd:VR ρ d d')(hx:VR ρ x x') :
  Gv P w0 ρ v S' ((Builtin.copy_ ts ty #[d',x']).run P w):=by
 unfold copyV at h
 split at h
 ·rename_i dT rest CT
  have I0:ts[0]?=some dT:=by rw[←Array.getElem?_toList,CT];rfl
  split at h
  ·rename_i elem base Qk AS9 xn hu hlen
   split at h
   ·rename_i size A4
    split at h
    ·rename_i new Cg
     have hl:=w5 hlen hx w (P:=P)
     obtain⟨l',p,q⟩:=cz hs Cg hx (fun k hk=>by rw[hlen]at hk;cases hk;exact Nat.min_le_left _ _)
     cases hd with
     |JA =>
      simp only[Option.some.injEq,Prod.mk.injEq]at h
      obtain⟨rfl,rfl⟩:=h
      refine .same hs ?_ (.int _ _)
      have e0:Nat.min xn 0=0:=Nat.min_zero xn
      rw[e0]at p
      simp[Builtin.copy_,I0,A3 w hu,hl,FZ w A4,p,goInt]
     |Lg b o k a=>cases h
     |slice hb O8 aG hr ho =>
      rename_i b o c' o' L
      simp only at h
      cases hz:Nat.beq new.length 0 with
      |true =>
       rw[hz]at h
       simp only[cond_true,Option.some.injEq,Prod.mk.injEq]at h
       obtain⟨rfl,rfl⟩:=h
       have US:new= []:=List.length_eq_zero_iff.1 (Bc hz)
       subst US
       cases q.HR
       refine .same hs ?_ (.int _ _)
       simp[Builtin.copy_,I0,A3 w hu,hl,FZ w A4,p,goInt,storeCells]
      |false =>
       rw[hz]at h
       simp only[cond_false]at h
       split at h
       ·rename_i S1 hw
        simp only[Option.some.injEq,Prod.mk.injEq]at h
        obtain⟨rfl,rfl⟩:=h
        have XA:0<Qk:=by
         rcases Nat.eq_zero_or_pos Qk with e0|e0
         ·subst e0
          exfalso
          have:new.length=0:=by
           unfold EN at Cg
           have e0:Nat.min xn 0=0:=Nat.min_zero xn
           rw[e0]at Cg
           split at Cg
           ·simp[Nat.beq]at Cg;simp[Cg]
           ·unfold MW at Cg
            split at Cg
            ·rw[Nat.zero_mul]at Cg;simp[takeN]at Cg;simp[←Cg]
            cases Cg
           ·simp[Nat.beq]at Cg;simp[Cg]
           ·cases MF:Nat.beq size 1 with
            |false=>rw[MF]at Cg;cases Cg
            |true=>rw[MF]at Cg;simp[takeN]at Cg;simp[←Cg]
           cases Cg
          rw[this]at hz
          cases hz
         exact e0
        rcases ho with ho|ho
        ·subst ho
         obtain⟨w',a1,a2⟩:=eF hs hb hw q
         refine⟨ρ,_,w',?_,Ext.refl _,.int .i64 _,a2⟩
         simp[Builtin.copy_,I0,A3 w hu,hl,FZ w A4,p,goInt,a1]
        omega
       cases h
     |_=>cases h
    cases h
   cases h
  cases h
 cases h
theorem AFl{w:World}{r o n:Nat}{arr:Array Value}{e:TypeId}{fz:Nat×Nat}(h:w.heap[r]?=some (.cells arr e fz))(hn:n≠0):∃gX,Kr r (.cells arr e gX) w (w.freeze ⟨r,o,none⟩ n):=by
 have AN:=(Array.getElem?_eq_some_iff.1 h).1
 obtain⟨lo,hi⟩:=fz
 refine⟨(if lo==hi then(o,o+n)else(min lo o,max hi (o+n))),?_⟩
 unfold World.freeze
 rw[if_neg hn]
 refine⟨fun k hk=>?_,?_,by simp,rfl,rfl⟩
 ·simp only[Array.getElem?_modify]
  rw[if_neg (fun e=>hk e.symm)]
 simp only[Array.getElem?_modify,h,Option.map_some,if_true]
theorem xJ{w:World}{g:Nat}:∀(ns:List Int) (o:Nat) (acc:ByteArray),(∀j n,ns[j]?=some n→w.cell? ⟨g,o+j,none⟩=some (.int .u8 n))→(loadBytes ⟨g,o,none⟩ acc ns.length).run P w= .ok ⟨acc.data++(ns.map (fun n=>UInt8.ofNat n.toNat)).toArray⟩ w
 | [],o,acc,_=>by simp[loadBytes]
 |n::ns,o,acc,h=>by
  have h0:w.cell? ⟨g,o,none⟩=some (.int .u8 n):=h 0 n rfl
  have ih:=xJ ns (o+1) (acc.push n.toNat.toUInt8) (fun j y hy=>by
   have:=h (j+1) y (by simpa using hy)
   rw[show o+1+j=o+(j+1) by omega]
   exact this)
  have hd:(acc.push n.toNat.toUInt8).data=acc.data.push n.toNat.toUInt8:=rfl
  rw[hd]at ih
  have hl:(load ⟨g,o,none⟩).run P w= .ok (.int .u8 n) w:=by simp[load,Sem.run,h0]
  simp only[List.length_cons,loadBytes,Sem.run_bind,hl,Result.andThen_ok,Addr.add_lit]
  rw[ih]
  congr 2
  simp[Nat.toUInt8]
theorem AM3(w:World)(pt it ty e:TypeId)(hp:P.underlying pt=some (.pointer e))(hc:P.cellsOf e=1)(g o cells:Nat)(hsh:w.shape? g=some (e,cells))(ns:List Int)(h0:ns≠[])(hn:o+ns.length≤cells)(Z3:ns.length≤9223372036854775807)
  (Wu:∀j n,ns[j]?=some n→w.cell? ⟨g,o+j,none⟩=some (.int .u8 n)) :
  (Builtin.unsafeString_ #[pt,it] ty #[.pointer (some ⟨g,o,none⟩),.int .i64 ns.length]).run P w= .ok (.string ⟨(ns.map (fun n=>UInt8.ofNat n.toNat)).toArray⟩) (w.freeze ⟨g,o,none⟩ ns.length):=by
 have hl:ns.length≠0:=by simpa using h0
 have hlb:=xJ (P:=P) ns o .empty Wu
 have AGc:=AID (P:=P) hc (cells/P.cellsOf e) o ns.length (by rw[hc];simpa using hn)
 have AF':¬(9223372036854775807:Int)<(ns.length:Int):=by omega
 have AGO:Builtin.unsafeString_ #[pt,it] ty #[.pointer (some ⟨g,o,none⟩),.int .i64 ns.length] =
   (do
    let n ←asInt (.int .i64 ns.length)
    if n<0 then runtimePanic (.error "unsafe.String: len out of range")
    if n>IntKind.i64.max then unsupported (.unsafePointer "String: a length above the largest int")
    if n=0 then pure (.string .empty)
    else if ←variablesAt ⟨g,o,none⟩ (←elemOf pt) n.toNat then do
     let s ←loadBytes ⟨g,o,none⟩ .empty n.toNat
     freeze ⟨g,o,none⟩ n.toNat
     pure (.string s)
    else unsupported (.unsafePointer "String: not so many bytes at ptr")):=rfl
 rw[AGO]
 have AGg:IntKind.i64.max=9223372036854775807:=rfl
 have AGk:¬(ns.length:Int)<0:=by omega
 simp[asInt,asIntOf,AGg,AF',AGk,hl,variablesAt,hsh,elemOf,A3 w hp,AGc,hlb]
theorem ASO{ρ:AI}{S S':St}{w:World}(hs:AW P w0 ρ S w){ty:TypeId}{ts:Array TypeId}{p p' v:Value}{i:Int}(h:Yi P ts.toList p i S=some (v,S'))(hp:VR ρ p p') :
  Gv P w0 ρ v S' ((Builtin.unsafeString_ ts ty #[p',.int .i64 i]).run P w):=by
 unfold Yi at h
 split at h
 ·rename_i pt it a CT
  have ht:ts= #[pt,it]:=by apply Array.ext';simpa using CT
  subst ht
  split at h
  ·cases h
   have Np:∃a',p'= .pointer a':=by cases hp<;>exact⟨_,rfl⟩
   obtain⟨a',rfl⟩:=Np
   exact .same hs (Lib.run_unsafeString_none w pt it ty a') (.string _)
  ·rename_i m
   split at h
   ·rename_i b o
    split at h
    ·rename_i t c e kin hu hB
     cases hc:(Nat.beq t e&&!(Nat.beq e 0)&&Nat.beq (P.cellsOf e) 1&&Nat.blt m 1000000)with
     |false=>rw[hc]at h;cases h
     |true =>
      rw[hc]at h
      simp only[cond_true]at h
      simp only[Bool.and_eq_true,Bool.not_eq_true']at hc
      obtain⟨⟨⟨h1,h2⟩,h3⟩,h4⟩:=hc
      have hte:=Bc h1
      subst hte
      have Ww:t≠0:=fun e0=>by rw[e0]at h2;exact absurd h2 (by simp[Nat.beq_refl])
      have hm:=Gk h4
      split at h
      ·rename_i l hl
       split at h
       ·rename_i bs hbs
        cases h
        cases hp with
        |ptr hb =>
         rename_i L
         obtain⟨arr,e',fz,g1,g2,g3,g4,g5⟩:=hs.Bn _ _ _ hb hB
         have hee:=g5.2.2 (.inl rfl) Ww
         subst hee
         obtain⟨l1,l2,l3⟩:=IW _ _ _ hl
         rw[Ha]at l2 l3
         have Cy:∀j v,l[j]?=some v→∃v',arr[L.d+o+j]?=some v'∧VR ρ v v':=by
          intro j v hv
          rw[l3,List.getElem?_take,List.getElem?_drop]at hv
          split at hv
          ·obtain⟨v',x1,x2⟩:=g3 _ _ hv
           exact⟨v',by rw[Nat.add_assoc];exact x1,x2⟩
          cases hv
         have PF:AS ρ l ((arr.toList.drop (L.d+o)).take (m+1)):=by
          have hlen:L.d+o+(m+1)≤arr.size:=by
           obtain⟨v',x1,_⟩:=Cy m _ (List.getElem?_eq_getElem (by omega))
           have:=(Array.getElem?_eq_some_iff.1 x1).1
           omega
          refine⟨by simp;omega,fun j v v' hv F1=>?_⟩
          obtain⟨u,x1,x2⟩:=Cy j v hv
          rw[List.getElem?_take,List.getElem?_drop,Array.getElem?_toList]at F1
          split at F1
          ·rw[x1]at F1;cases F1;exact x2
          cases F1
         obtain⟨ns,e1,e2⟩:=fH _ _ _ hbs PF
         have Cb:ns.length=m+1:=by
          have:=congrArg List.length e1
          rw[←PF.1]at this
          simp at this;omega
         have Wu:∀j n,ns[j]?=some n→w.cell? ⟨L.r,o+L.d+j,none⟩=some (.int .u8 n):=by
          intro j n hj
          have:((arr.toList.drop (L.d+o)).take (m+1))[j]?=some (.int .u8 n):=by rw[e1];simp[hj]
          rw[List.getElem?_take,List.getElem?_drop,Array.getElem?_toList]at this
          split at this
          ·unfold World.cell?
           simp only[g1]
           rw[show o+L.d+j=L.d+o+j by omega]
           exact this
          cases this
         have A4:o+L.d+ns.length≤arr.size:=by
          obtain⟨v',x1,_⟩:=Cy m _ (List.getElem?_eq_getElem (by omega))
          have:=(Array.getElem?_eq_some_iff.1 x1).1
          omega
         have Dq:=AM3 (P:=P) w pt it ty _ hu (Bc h3) L.r (o+L.d) arr.size (ny g1) ns (by intro e;rw[e]at Cb;simp at Cb) A4 (by omega) Wu
         obtain⟨gX,Bp⟩:=AFl (o:=o+L.d) (n:=ns.length) g1 (by omega)
         have O9:=hs.put (B:= .cells c _ true true kin) (B':= .cells c _ true false []) hb hB rfl Bp ⟨arr,_,gX,rfl,g2,g3,(fun h=>nomatch h),g5.1,g5.2.1,fun _ _=>rfl⟩
         rw[Cb]at Dq
         refine⟨ρ,_,_,Dq,Ext.refl _,?_,?_⟩
         ·rw[←e2];exact .string _
         rw[Cb]at O9
         exact O9
       cases h
      cases h
    cases h
   cases h
  cases h
 cases h
set_option maxHeartbeats 8000000 in
theorem AJ3{ts:Array TypeId}{sT xT ty elem:TypeId}{k kx:IntKind}{size n:Nat}{w:World}(h0:ts[0]?=some sT)(h1:ts[1]?=some xT)(hu:P.underlying sT=some (.slice elem))
  (hx:P.underlying xT=some (.int kx))(A4:A5 P elem=some size){i:TypeInfo}{z:Value}(hi:P.info? elem=some i)(hz:zeroV P elem=some z)(hb:i.bytes≤1024)(hb0:0<i.bytes)(hm:n≤Ae)(hn:0<n)(UX:0<size) :
  ∃BM,n≤BM∧(Builtin.append_ ts ty #[.slice none 0 0,.int k (Int.ofNat n)]).run P w =
   .ok (.slice (some ⟨w.heap.size,0,none⟩) n BM) (w.drew.alloc (.cells (Builtin.zeroCells z.cells n++Builtin.zeroCells z.cells (BM-n)) elem)):=by
 have g1:=td (need:=n) (cap:=0) (bytes:=i.bytes) hn hm hb
 have uv:n≤1073741824:=hm
 have g2:¬(9223372036854775807<(n:Int)):=by omega
 have g3:i.bytes≠0:=by omega
 have g4:IntKind.i64.wrap ((n:Nat):Int)=(n:Int):=by
  rw[IntKind.wrap_i64]
  omega
 have g5:¬(n:Int)<0:=by omega
 have g6:¬(281474976710656<(n:Int)*(i.bytes:Int)):=by
  have:n*i.bytes≤1073741824*1024:=Nat.mul_le_mul uv hb
  have h2:(n:Int)*(i.bytes:Int)=((n*i.bytes:Nat):Int):=by rw[Int.natCast_mul]
  omega
 have g7:¬(n=0∨size=0):=by omega
 have g8:n≠0:=by omega
 refine⟨(Question.appendCap n 0 elem).cut (w.tape w.drawn (.appendCap n 0 elem)),by simp[Question.cut],?_⟩
 have RT:=Ka w.drew hz
 simp[Builtin.append_,h0,h1,A3 w hu,A3 w hx,FZ w A4,asInt,asIntOf,g4,g5,g6,g8,MZ w hi,MZ w.drew hi,g1,g2,Question.forced,RT,newRow,Builtin.firstCells]
 intro h9
 exact absurd (Nat.mul_eq_zero.1 h9) g7
theorem AB1{ρ:AI}{S S':St}{w:World}(hs:AW P w0 ρ S w){ts:Array TypeId}{ty:TypeId}{s s' x x' v:Value}(h:ec P ts.toList s x S=some (v,S'))(Je:VR ρ s s')(hx:VR ρ x x') :
  Gv P w0 ρ v S' ((Builtin.append_ ts ty #[s',x']).run P w):=by
 unfold ec at h
 split at h
 ·rename_i sT xT rest k n CT
  have I0:ts[0]?=some sT:=by rw[←Array.getElem?_toList,CT];rfl
  have ht1:ts[1]?=some xT:=by rw[←Array.getElem?_toList,CT];rfl
  split at h
  ·rename_i elem kx hu hxu
   split at h
   ·rename_i size z0 A4 GL
    cases hg:(Nat.blt 0 n&&MB P elem size n)with
    |false=>rw[hg]at h;cases h
    |true =>
     rw[hg]at h
     simp only[cond_true,Option.some.injEq]at h
     rw[Bool.and_eq_true]at hg
     obtain⟨ei,z,FE,hz,MF,K5,Hk,XN,LG⟩:=tc hg.2
     rw[GL]at hz
     cases hz
     cases Je;cases hx
     have hn:=Gk hg.1
     obtain⟨BM,Fj,Dq⟩:=AJ3 (P:=P) (ty:=ty) (k:=k) (w:=w) I0 ht1 hu hxu A4 FE GL MF K5 Hk hn LG
     have Ns:=Yq (ρ:=ρ) GL n (n*z0.cells.size) rfl
     have jj:z0.cells.size=size:=XN
     have e1:N8 S (EE n (BG z0)) elem n n=(v,S'):=h
     obtain⟨ρ',b1,b2,b3⟩:=Xd hs.drew (c:=EE n (BG z0)) (arr:=(Builtin.zeroCells z0.cells n++Builtin.zeroCells z0.cells (BM-n))) (e:=elem) (e':=elem) (z:=size) (fun i y hy=>by
      obtain⟨y',p1,p2⟩:=Ns.get hy
      refine⟨y',?_,p2⟩
      have hi:=(List.getElem?_eq_some_iff.1 p1).1
      have h3:(Builtin.zeroCells z0.cells n)[i]?=some y':=by rw[←Array.getElem?_toList];exact p1
      rw[Array.getElem?_append_left (Array.getElem?_eq_some_iff.1 h3).1]
      exact h3) (fun _=>rfl) A4 (n:=n) (k:=n) (k':=BM) (Nat.le_refl _) Fj (fun _=>by
       simp only[Array.size_append,size_zeroCells,jj]
       have:BM*size=n*size+(BM-n)*size:=by rw[←Nat.add_mul];congr 1;omega
       omega)
     rw[e1]at b2 b3
     exact⟨ρ',_,_,Dq,b1,b3,b2⟩
   cases h
  cases h
 cases h
theorem AFO{ρ:AI}{S:St}{w:World}(hs:AW P w0 ρ S w){b:Nat}{L M:Loc}(hb:ρ b=some L):Bb ρ S.size M b=some L:=by
 unfold Bb
 have:=(hs.Dj b L hb).1
 rw[if_neg (by omega)]
 exact hb
theorem AJh{ρ:AI}{S S':St}{w:World}(hs:AW P w0 ρ S w){t:TypeId}{x x' v:Value}(h:mm P t x S=some (v,S'))(hx:VR ρ x x'):Gv P w0 ρ v S' ((Instr.range t x').run P w):=by
 unfold mm at h
 split at h
 ·rename_i key elem r hu
  split at h
  ·rename_i clock hB
   cases h
   cases hx with
   |map hb =>
    rename_i L
    obtain⟨BP,h1,h2⟩:=hs.Bn _ _ _ hb hB
    obtain⟨a,b⟩:=hs.add (B:= .Uv r) (o:= .mapIter (some L.r) clock #[] clock) (L:=⟨w.heap.size,0,0,0⟩) rfl ⟨L,clock,clock,AFO hs hb,rfl,rfl⟩
    refine⟨_,.pointer (some ⟨w.heap.size,0,none⟩),_,?_,a,VR.ptr (L:=⟨w.heap.size,0,0,0⟩) (Ju _ _ _),b⟩
    have hg:(getObj L.r).run P w= .ok (.map BP.toArray clock) w:=by simp[getObj,Sem.run,h1]
    simp[Instr.range,A3 w hu,hg]
  cases h
 cases h
theorem AIz{ρ:AI}{S S':St}{w:World}(hs:AW P w0 ρ S w){ty:TypeId}{b:Bool}{x x' v:Value}(h:lp x b S=some (v,S'))(hx:VR ρ x x'):Gv P w0 ρ v S' ((Instr.next x' b ty).run P w):=by
 unfold lp at h
 split at h
 ·rename_i r
  split at h
  ·rename_i m hB
   split at h
   ·rename_i clock hM
    cases h
    cases hx with
    |ptr hb =>
     rename_i L
     obtain⟨M,since,last,hm,hLd,ho⟩:=hs.Bn _ _ _ hb hB
     obtain⟨BP,h1,h2⟩:=hs.Bn _ _ _ hm hM
     have he:BP= []:=List.length_eq_zero_iff.1 h2.1.symm
     subst he
     have ij:(getObj L.r).run P w= .ok (.mapIter (some M.r) since #[] last) w:=by simp[getObj,Sem.run,ho]
     have Wx:(getObj M.r).run P w= .ok (.map #[] clock) w:=by simp[getObj,Sem.run,h1]
     refine⟨ρ,.tuple #[.bool false],w,?_,Ext.refl _,VR.tuple' (AS.cons (.bool false) AS.nil),hs⟩
     rw[hLd]
     have hf:(Question.mapNext 1).forced=true:=rfl
     simp[Instr.next,ij,Wx,hf]
   cases h
  cases h
 cases h
end Go.Cm
namespace Go.Cm
open Go
variable{P:Program}{w0:Bi}
theorem nb{o:Oper}(g:Operand→Value){b:Builtin}{args:Array Operand}{ts:Array TypeId}(ho:o.op= .call {callee:= .builtin b,args:=args,argTypes:=ts})(w:World) :
  ∃cs,(execOp g o).run P w=(builtin b ts o.type cs (args.map g)).run P w:=by
 simp only[execOp,ho,resolve,invoke,Sem.run_bind,Sem.run_pure]
 exact⟨_,rfl⟩
theorem AB9{args:Array Operand}{x:Operand}(h:args.toList= [x]):args= #[x]:=by
 apply Array.ext';simpa using h
theorem zI{ρ:AI}{S:St}{w:World}(hs:AW P w0 ρ S w){o:Oper}{f g:Operand→Value}(Ax:∀x,x∈o.op.operands→VR ρ (f x) (g x)){v:Value}(h:CF P f o.op S=some v) :
  ∃v',(execOp g o).run P w= .ok (.value v') w∧VR ρ v v':=by
 generalize ho:o.op=op at h Ax
 unfold CF at h
 split at h
 ·rename_i t a
  obtain⟨v',p,q⟩:=lZ hs h (Ax a (by simp[Op.operands]))
  exact⟨v',by simp[execOp,ho,p],q⟩
 ·rename_i t x lo hi mx
  obtain⟨v',p,q⟩:=ANP hs h (Ax x (by simp[Op.operands])) (Kk.map fun o e=>Ax o (by subst e;simp[Op.operands])) (Kk.map fun o e=>Ax o (by subst e;simp[Op.operands])) (Kk.map fun o e=>Ax o (by subst e;simp[Op.operands]))
  exact⟨v',by simp[execOp,ho,p],q⟩
 ·rename_i t x i ok
  obtain⟨v',p,q⟩:=AIS hs h (Ax x (by simp[Op.operands])) (Ax i (by simp[Op.operands]))
  exact⟨v',by simp[execOp,ho,p],q⟩
 ·rename_i args ts
  split at h
  ·rename_i x t rest ha ht
   have iJ:=AB9 ha
   subst iJ
   have I0:ts[0]?=some t:=by rw[←Array.getElem?_toList,ht];rfl
   obtain⟨p,q⟩:=w6 (ty:=o.type) hs h (Ax x (by simp[Op.operands,Call.operands])) I0
   refine⟨v,?_,q.refl ρ⟩
   obtain⟨cs,e⟩:=nb (P:=P) g ho w
   rw[e]
   simp[builtin,p]
  cases h
 subst ho
 exact AJe Ax h w
def NA(P:Program)(w0:Bi)(ρ:AI)(v:Value)(S':St)(r:Result Next):Prop :=
 ∃ρ' v' w',(r= .ok (.value v') w'∨(r= .ok .skip w'∧v'=undef))∧Ext ρ ρ'∧VR ρ' v v'∧AW P w0 ρ' S' w'
theorem NA.Gm{ρ:AI}{v:Value}{S':St}{s:Sem Value}{w:World}(h:Gv P w0 ρ v S' (s.run P w)){r:Result Next}(hr:r=((do pure (Next.value (←s)):Sem Next)).run P w):NA P w0 ρ v S' r:=by
 obtain⟨ρ',v',w',a,b,c,d⟩:=h
 refine⟨ρ',v',w',.inl ?_,b,c,d⟩
 rw[hr,Sem.run_bind,a];rfl
theorem NA.br{ρ:AI}{S':St}{s:Sem Unit}{w w':World}(h:s.run P w= .ok () w')(hs:AW P w0 ρ S' w'){r:Result Next}(hr:r=((do s;pure Next.skip:Sem Next)).run P w):NA P w0 ρ undef S' r:=by
 refine⟨ρ,undef,w',.inr ⟨?_,rfl⟩,Ext.refl _,VR.undef _,hs⟩
 rw[hr,Sem.run_bind,h];rfl
theorem ye{ρ:AI}{f g:Operand→Value}{parts:Array (Nat×Operand)}(h:∀x,x∈(parts.toList.map (·.2)).toArray→VR ρ (f x) (g x)):J1 ρ (Jp f parts.toList) (parts.map fun(i,x)=>(i,g x)).toList:=by
 refine⟨by simp[Jp],?_⟩
 simp only[Jp,List.map_map,Array.toList_map]
 have:=AS.PS (ρ:=ρ) (f:=f) (g:=g) (parts.toList.map (·.2)) (fun x hx=>h x (by simpa using hx))
 simpa [List.map_map,Function.comp_def]using this
theorem xq{ρ:AI}{S S':St}{w:World}(hs:AW P w0 ρ S w){o:Oper}{f g:Operand→Value}(Ax:∀x,x∈o.op.operands→VR ρ (f x) (g x)){v:Value}(h:DY P f o.op S=some (v,S')) :
  NA P w0 ρ v S' ((execOp g o).run P w):=by
 cases ho:o.op<;>rw[ho]at h Ax
 case alloc e =>
  simp only[DY]at h
  split at h
  ·rename_i z hz
   cases h
   exact .Gm (ABw hs hz) (by simp only[execOp,ho])
  cases h
 case box e x =>
  simp only[DY]at h
  cases h
  exact .Gm (AEC hs (Ax x (by simp[Op.operands]))) (by simp only[execOp,ho])
 case buildSlice t len parts =>
  exact .Gm (AEE hs h (ye (by simpa [Op.operands]using Ax))) (by simp only[execOp,ho])
 case makeMap t r =>
  cases r with
  |some x=>simp[DY]at h
  |none =>
   simp only[DY]at h
   cases h
   obtain⟨ρ',a,b,c⟩:=xp hs
   exact⟨ρ',_,_,.inl (by simp[execOp,ho,Instr.makeMap]),a,b,c⟩
 all_goals simp[DY]at h
end Go.Cm
namespace Go.Cm
open Go
variable{P:Program}{w0:Bi}
theorem Gv.of_same{ρ:AI}{S:St}{w:World}{v v':Value}{s:Sem Value}(hs:AW P w0 ρ S w)(h:s.run P w= .ok v' w)(hv:VR ρ v v'):Gv P w0 ρ v S (s.run P w) :=
 ⟨ρ,v',w,h,Ext.refl _,hv,hs⟩
theorem ed{ρ:AI}{f g:Operand→Value}{args:Array Operand}(h:∀x,x∈args→VR ρ (f x) (g x)):AS ρ (args.toList.map f) (args.map g).toList:=by
 rw[Array.toList_map]
 exact AS.PS args.toList fun x hx=>h x (by simpa using hx)
theorem rZ{ρ:AI}{S S':St}{w:World}(hs:AW P w0 ρ S w){o:Oper}{f g:Operand→Value}{b:Builtin}{args:Array Operand}{ts:Array TypeId}
  (ho:o.op= .call {callee:= .builtin b,args:=args,argTypes:=ts})(Ax:∀x,x∈args→VR ρ (f x) (g x)){v:Value}(h:ER P b ts.toList (args.toList.map f) S=some (v,S')) :
  NA P w0 ρ v S' ((execOp g o).run P w):=by
 obtain⟨cs,e⟩:=nb (P:=P) g ho w
 rw[e]
 have hv:=ed Ax
 generalize ha:args.toList.map f=l at h hv
 generalize hg:args.map g=ga at hv e ⊢
 unfold ER at h
 split at h
 ·rename_i x
  split at h
  ·rename_i t rest CT
   obtain⟨x',r',Fl,hx,hr⟩:=hv.cons_inv
   cases hr.HR
   have IA:ga= #[x']:=by apply Array.ext';simpa using Fl
   subst IA
   have I0:ts[0]?=some t:=by rw[←Array.getElem?_toList,CT];rfl
   cases hl:Fo P t x S with
   |none=>rw[hl]at h;cases h
   |some u =>
    rw[hl]at h
    cases h
    obtain⟨p,q⟩:=w6 (ty:=o.type) hs hl hx I0
    exact .Gm (.of_same hs p (q.refl ρ)) (by simp[builtin])
  cases h
 ·rename_i s x
  obtain⟨s',r',Fl,Je,hr⟩:=hv.cons_inv
  obtain⟨x',cS,rfl,hx,FG⟩:=hr.cons_inv
  cases FG.HR
  have IA:ga= #[s',x']:=by apply Array.ext';simpa using Fl
  subst IA
  split at h
  ·rename_i r RL
   obtain⟨v1,S1⟩:=r
   cases h
   exact .Gm (AB3 (ty:=o.type) hs RL Je hx) (by simp[builtin])
  exact .Gm (AB1 (ty:=o.type) hs h Je hx) (by simp[builtin])
 ·rename_i x r
  obtain⟨x',r',Fl,hx,hr⟩:=hv.cons_inv
  cases hm:PU false x r with
  |none=>rw[hm]at h;cases h
  |some u =>
   rw[hm]at h
   cases h
   obtain⟨v',p,q⟩:=lb (P:=P) (ty:=o.type) (ts:=ts) r r' x x' _ hm hx hr w
   exact .Gm (s:=Builtin.min_ ts o.type ga) (.of_same hs (by unfold Builtin.min_;rw[Fl];simpa using p) q) (by simp[builtin])
 ·rename_i x r
  obtain⟨x',r',Fl,hx,hr⟩:=hv.cons_inv
  cases hm:PU true x r with
  |none=>rw[hm]at h;cases h
  |some u =>
   rw[hm]at h
   cases h
   obtain⟨v',p,q⟩:=lb (P:=P) (ty:=o.type) (ts:=ts) r r' x x' _ hm hx hr w
   exact .Gm (s:=Builtin.max_ ts o.type ga) (.of_same hs (by unfold Builtin.max_;rw[Fl];simpa using p) q) (by simp[builtin])
 ·rename_i s x
  obtain⟨s',r',Fl,Je,hr⟩:=hv.cons_inv
  obtain⟨x',cS,rfl,hx,FG⟩:=hr.cons_inv
  cases FG.HR
  have IA:ga= #[s',x']:=by apply Array.ext';simpa using Fl
  subst IA
  exact .Gm (AE0 (ty:=o.type) hs h Je hx) (by simp[builtin])
 ·rename_i x
  obtain⟨x',r',Fl,hx,hr⟩:=hv.cons_inv
  cases hr.HR
  have IA:ga= #[x']:=by apply Array.ext';simpa using Fl
  subst IA
  exact .Gm (AEu (ty:=o.type) hs h hx) (by simp[builtin])
 ·rename_i x
  split at h
  ·rename_i t rest CT
   split at h
   ·rename_i e hu
    cases h
    obtain⟨x',r',Fl,hx,hr⟩:=hv.cons_inv
    cases hr.HR
    have IA:ga= #[x']:=by apply Array.ext';simpa using Fl
    subst IA
    have I0:ts[0]?=some t:=by rw[←Array.getElem?_toList,CT];rfl
    cases hx
    exact .Gm (s:=Builtin.cap_ ts o.type #[.slice none 0 0]) (.of_same hs (by simp[Builtin.cap_,I0,A3 w hu,goInt]) (.int _ _)) (by simp[builtin])
   cases h
  cases h
 ·rename_i x
  split at h
  ·cases h
   obtain⟨x',r',Fl,hx,hr⟩:=hv.cons_inv
   cases hr.HR
   have IA:ga= #[x']:=by apply Array.ext';simpa using Fl
   subst IA
   cases hx
   exact .Gm (s:=Builtin.unsafeSliceData_ ts o.type #[.slice none 0 0]) (.of_same hs rfl .MT) (by simp[builtin])
  ·rename_i b oo n c
   cases h
   obtain⟨x',r',Fl,hx,hr⟩:=hv.cons_inv
   cases hr.HR
   have IA:ga= #[x']:=by apply Array.ext';simpa using Fl
   subst IA
   cases hx with
   |slice hb hn hc hr ho =>
    rename_i o' c' L
    have Fj:c'≠0:=by omega
    rcases ho with ho|ho
    ·subst ho
     refine .Gm (s:=Builtin.unsafeSliceData_ ts o.type #[.slice (some ⟨L.r,oo+L.d,none⟩) n c']) (.of_same hs ?_ (.ptr hb)) (by simp[builtin])
     have:Builtin.unsafeSliceData_ ts o.type #[.slice (some ⟨L.r,oo+L.d,none⟩) n c']=(do
      if c'≠0 then pure (.pointer (some ⟨L.r,oo+L.d,none⟩))
      else if(←viewAt L.r).isSome then pure (.pointer (some ⟨L.r,oo+L.d,none⟩))
      else pure (.pointer (some ⟨←newObj (.view ⟨L.r,oo+L.d,none⟩ (←elemOf o.type)),0,none⟩))):=rfl
     rw[this,if_pos Fj]
     rfl
    exact absurd ho Fj
  cases h
 ·rename_i p n
  split at h
  ·rename_i i
   obtain⟨p',r',Fl,hp,hr⟩:=hv.cons_inv
   obtain⟨n',cS,rfl,hn,FG⟩:=hr.cons_inv
   cases FG.HR
   cases hn
   have IA:ga= #[p',.int .i64 i]:=by apply Array.ext';simpa using Fl
   subst IA
   exact .Gm (ASO (ty:=o.type) hs h hp) (by simp[builtin])
  cases h
 cases h
theorem uQ{ρ:AI}{S S':St}{w:World}(hs:AW P w0 ρ S w){o:Oper}{f g:Operand→Value}(Ax:∀x,x∈o.op.operands→VR ρ (f x) (g x)){v:Value}(h:KH P f o.op S=some (v,S')) :
  NA P w0 ρ v S' ((execOp g o).run P w):=by
 generalize ho:o.op=op at h Ax
 unfold KH at h
 split at h
 ·rename_i t a x
  split at h
  ·rename_i S1 BL
   cases h
   obtain⟨w',p,q⟩:=AO6 hs BL (Ax a (by simp[Op.operands])) (Ax x (by simp[Op.operands]))
   exact .br p q (by simp only[execOp,ho])
  cases h
 ·rename_i s d x
  exact .Gm (AEz hs h (Ax x (by simp[Op.operands]))) (by simp only[execOp,ho])
 ·rename_i t r
  split at h
  ·rename_i key elem k n hu hr
   cases h
   have hx:=Ax r (by simp[Op.operands])
   rw[hr]at hx
   generalize K8:g r=gr at hx
   cases hx
   obtain⟨ρ',a,b,c⟩:=xp hs
   exact⟨ρ',_,_,.inl (by simp[execOp,ho,Instr.makeMap,K8,A3 w hu,asInt,asIntOf]),a,b,c⟩
  cases h
 ·rename_i t l c
  exact .Gm (AIX hs h (Ax l (by simp[Op.operands])) (Ax c (by simp[Op.operands]))) (by simp only[execOp,ho])
 ·rename_i t x
  exact .Gm (AJh hs h (Ax x (by simp[Op.operands]))) (by simp only[execOp,ho])
 ·rename_i it s
  exact .Gm (AIz (ty:=o.type) hs h (Ax it (by simp[Op.operands]))) (by simp only[execOp,ho])
 ·rename_i t m k x
  split at h
  ·rename_i S1 BL
   cases h
   obtain⟨w',p,q⟩:=xQ hs BL (Ax m (by simp[Op.operands])) (Ax k (by simp[Op.operands])) (Ax x (by simp[Op.operands]))
   exact .br p q (by simp only[execOp,ho])
  cases h
 ·rename_i t m k x
  split at h
  ·rename_i S1 BL
   cases h
   obtain⟨w',p,q⟩:=xQ hs BL (Ax m (by simp[Op.operands])) (Ax k (by simp[Op.operands])) (Ax x (by simp[Op.operands]))
   exact .br p q (by simp only[execOp,ho])
  cases h
 ·rename_i t m k
  exact .Gm (AIZ hs h (Ax m (by simp[Op.operands])) (Ax k (by simp[Op.operands]))) (by simp only[execOp,ho])
 ·rename_i t m s x
  split at h
  ·rename_i S1 BL
   cases h
   obtain⟨w',p,q⟩:=AFF (t:=t) hs BL (Ax m (by simp[Op.operands])) (Ax s (by simp[Op.operands])) (Ax x (by simp[Op.operands]))
   exact .br p q (by simp only[execOp,ho])
  cases h
 ·rename_i b args ts
  exact rZ hs ho (fun x hx=>Ax x (by simp[Op.operands,Call.operands];exact hx)) h
 cases h
end Go.Cm
namespace Go.Cm
open Go
variable{P:Program}{w0:Bi}{K:BX}
def Yx(ρ:AI)(d d':Deferred):Prop :=
 (∃r L,d.target= .collected r∧ρ r=some L∧d'.target= .collected L.r) ∨
 (∃f cap BM,d.target= .fn (.func f) cap∧d'.target= .fn (.func f) BM∧AS ρ cap.toList BM.toList∧AS ρ d.args.toList d'.args.toList)
theorem Yx.mono{ρ ρ':AI}(e:Ext ρ ρ'){d d':Deferred}(h:Yx ρ d d'):Yx ρ' d d':=by
 rcases h with ⟨r,L,a,b,c⟩|⟨f,c,c',a,b,p,q⟩
 ·exact .inl ⟨r,L,a,e _ _ b,c⟩
 exact .inr ⟨f,c,c',a,b,p.mono e,q.mono e⟩
inductive IZ(ρ:AI):List Deferred→List Deferred→Prop
 |nil:IZ ρ [] []
 |cons {d d':Deferred} {l l':List Deferred} (h:Yx ρ d d') (k:IZ ρ l l'):IZ ρ (d::l) (d'::l')
theorem IZ.mono{ρ ρ':AI}(e:Ext ρ ρ'){l l':List Deferred}(h:IZ ρ l l'):IZ ρ' l l':=by
 induction h with
 |nil=>exact .nil
 |cons h _ ih=>exact .cons (h.mono e) ih
theorem IZ.append{ρ:AI}{a a' b b':List Deferred}(h:IZ ρ a a')(k:IZ ρ b b'):IZ ρ (a++b) (a'++b'):=by
 induction h with
 |nil=>exact k
 |cons h _ ih=>exact .cons h ih
structure Bh(ρ:AI)(a:Ca)(ar:Act):Prop where
 le:a.n≤256
 tm:GC ρ a.n a.t ar.tmps
 df:IZ ρ a.defers ar.defers
theorem Bh.mono{ρ ρ':AI}(e:Ext ρ ρ'){a:Ca}{ar:Act}(h:Bh ρ a ar):Bh ρ' a ar:=⟨h.le,h.tm.mono e,h.df.mono e⟩
theorem get_eq(a:Ca)(i:Nat):a.get i=Ow a.t i:=rfl
theorem Bh.get{ρ:AI}{a:Ca}{ar:Act}(h:Bh ρ a ar)(i:Nat):VR ρ (a.get i) (ar.tmps.getD i undef):=h.tm.2 i
theorem GC.set{ρ:AI}{n:Nat}{t:Tm}{tmps:Array Value}(h:GC ρ n t tmps){d:Nat}(hd:d<n)(hn:n≤256){v v':Value}(hv:VR ρ v v'):GC ρ n (PT.set t d (some v)) (tmps.setIfInBounds d v'):=by
 refine⟨by simpa using h.1,fun i=>?_⟩
 have hg:Ow (PT.set t d (some v)) i=if i=d then v else Ow t i:=by
  unfold Ow
  rw[PT.Zy _ _ _ (by omega)]
  by_cases e:i=d
  ·simp[e]
  simp[e]
 rw[hg,Array.getD_eq_getD_getElem?,Array.getElem?_setIfInBounds]
 by_cases e:i=d
 ·subst e
  simp[h.1,hd,hv]
 rw[if_neg e,if_neg (fun h=>e h.symm),←Array.getD_eq_getD_getElem?]
 exact h.2 i
theorem Bh.put{ρ:AI}{a a':Ca}{ar:Act}(h:Bh ρ a ar){dst:Option Tmp}{v v':Value}(hp:a.put dst v=some a')(hv:VR ρ v v'):Bh ρ a' (ar.put dst v'):=by
 unfold Ca.put at hp
 cases dst with
 |none=>simp at hp;subst hp;exact h
 |some d =>
  simp only at hp
  cases hb:Nat.blt d a.n with
  |false=>rw[hb]at hp;cases hp
  |true =>
   rw[hb]at hp
   simp only[cond_true,Option.some.injEq]at hp
   subst hp
   exact⟨h.le,h.tm.set (Gk hb) h.le hv,h.df⟩
theorem AFK{ρ:AI}{S:St}{w:World}(hs:AW P w0 ρ S w){a:Ca}{ar:Act}(h:Bh ρ a ar){x:Operand}(hx:(match x with
  | .const v=>Dx L8 v
  | .global g=>Nat.blt g P.globals.size
  |_=>true)=true):VR ρ (a.ev x) (ar.eval x):=by
 cases x with
 |tmp t=>exact h.get t
 |const v=>exact(NX _ _ hx).refl ρ
 |func f=>exact(Flat.func f).refl ρ
 |global g =>
  obtain⟨L,h1,h2,h3⟩:=hs.KE g (Gk hx)
  have:=VR.ptr (o:=0) h1
  rw[h2,h3]at this
  exact this
theorem Tg{ρ:AI}{a:Ca}{ar:Act}(h:Bh ρ a ar){ops:Array Oper}{o:Oper}:Du ops.toList a o=Region.wanted o (yielded ops ar.tmps):=by
 cases hg:o.guard with
 |none=>simp[Du,Region.wanted,hg]
 |some q =>
  obtain⟨j,wnt⟩:=q
  simp only[Du,Region.wanted,hg,CE,Array.getElem?_toList,yielded]
  cases hj:ops[j]? with
  |none=>simp
  |some oj =>
   simp only[Option.bind_some]
   cases hd:oj.dst with
   |none=>simp
   |some d =>
    simp only[Option.bind_some]
    have hv:=h.get d
    unfold Ca.get at hv
    cases hc:a.t.get d with
    |none =>
     rw[hc]at hv
     simp only at hv ⊢
     cases hr:ar.tmps[d]? with
     |none=>simp
     |some x =>
      rw[Array.getD_eq_getD_getElem?,hr]at hv
      simp only[Option.getD_some]at hv
      cases x<;>first|rfl|(cases hv)
    |some v =>
     rw[hc]at hv
     simp only at hv
     cases hr:ar.tmps[d]? with
     |none =>
      rw[Array.getD_eq_getD_getElem?,hr]at hv
      simp only[Option.getD_none]at hv
      cases v<;>first|rfl|(cases hv)
     |some x =>
      rw[Array.getD_eq_getD_getElem?,hr]at hv
      simp only[Option.getD_some]at hv
      cases hv<;>first
       |rfl
       |(rename_i b;cases wnt<;>cases b<;>rfl)
end Go.Cm
namespace Go.Cm
open Go
variable{P:Program}{w0:Bi}{K:BX}
def FW(r:Option Nat):Fence:={Fence.wide with round:=r}
inductive JI(ρ:AI):List PanicEntry→List PanicEntry→Prop
 |nil:JI ρ [] []
 |cons {v v':Value} {l l':List PanicEntry} (r g:Bool) (h:VR ρ v v') (k:JI ρ l l'):JI ρ (⟨v,r,g⟩::l) (⟨v',r,g⟩::l')
theorem JI.mono{ρ ρ':AI}(e:Ext ρ ρ'){l l':List PanicEntry}(h:JI ρ l l'):JI ρ' l l':=by
 induction h with
 |nil=>exact .nil
 |cons r g h _ ih=>exact .cons r g (h.mono e) ih
inductive eH(ρ:AI):Ending→Ending→Prop
 |ret {v v':Value} (h:VR ρ v v'):eH ρ (.returned v) (.returned v')
 |Ab {c c':List PanicEntry} (h:JI ρ c c'):eH ρ (.panicked c) (.panicked c')
inductive Vv(ρ:AI):Exit→Exit→Prop
 |normal:Vv ρ .normal .normal
 |exit (id:Nat):Vv ρ (.exit id) (.exit id)
 |ret:Vv ρ .ret .ret
 |Ab {c c':List PanicEntry} (h:JI ρ c c'):Vv ρ (.panic c) (.panic c')
def V2(ρ:AI)(t t':Target):Prop:= ∃fn H5 cap BM,t= .fn fn cap∧t'= .fn H5 BM∧VR ρ (.func fn #[] cap) (.func H5 #[] BM)
theorem V2.mono{ρ ρ':AI}(e:Ext ρ ρ'){t t':Target}(h:V2 ρ t t'):V2 ρ' t t':=by
 obtain⟨a,b,c,d,x,y,z⟩:=h;exact⟨a,b,c,d,x,y,z.mono e⟩
theorem N9{ρ:AI}:∀(i:Nat) (v v':Value),([]:List Value)[i]?=some v→([]:List Value)[i]?=some v'→VR ρ v v':=fun i v v' h=>by simp at h
theorem VR.gW{ρ:AI}{fn:Fn}{first cap:Array Value}{x:Value}(h:VR ρ (.func fn first cap) x) :
  ∃H5 Gw BM,x= .func H5 Gw BM∧VR ρ (.func fn #[] cap) (.func H5 #[] BM)∧AS ρ first.toList Gw.toList:=by
 cases h with
 |func f ha h hc k=>exact⟨_,_,_,rfl,.func f rfl N9 hc k,ha,h⟩
 |method f ha h hc k=>exact⟨_,_,_,rfl,.method f rfl N9 hc k,ha,h⟩
 |via t p f q ha h hc k=>exact⟨_,_,_,rfl,.via t p f q rfl N9 hc k,ha,h⟩
 |yield h=>exact⟨_,_,_,rfl,.yield h,AS.nil⟩
def Tn(ρ:AI)(r r':Option Nat):Prop:=(r=none∧r'=none)∨∃l L,r=some l∧ρ l=some L∧r'=some L.r
theorem Tn.mono{ρ ρ':AI}(e:Ext ρ ρ'){r r':Option Nat}(h:Tn ρ r r'):Tn ρ' r r':=by
 rcases h with h|⟨l,L,a,b,c⟩
 ·exact .inl h
 exact .inr ⟨l,L,a,e _ _ b,c⟩
def Kj(P:Program)(R:Ending→World→Prop):Result Next→Prop
 | .ok (.value v) w=>R (.returned v) w
 | .ok (.enter f args) w=>CallsIn Fence.wide 0 P f args w R
 | .ok (.round l f tmps x y) w=>RoundIn Fence.wide 0 P l f tmps x y w R
 |_=>False
def Fu(P:Program)(w0:Bi)(ρ:AI)(e:Ending)(S':St):Ending→World→Prop:=fun e' w'=>∃ρ',Ext ρ ρ'∧eH ρ' e e'∧AW P w0 ρ' S' w'
def Ib(P:Program)(w0:Bi)(ρ:AI)(e:Exit)(a':Ca)(S':St):Exit→Act→World→Prop:=fun e' C7 w'=>∃ρ',Ext ρ ρ'∧Vv ρ' e e'∧Bh ρ' a' C7∧AW P w0 ρ' S' w'
theorem Ib.mono{ρ ρ1:AI}(h:Ext ρ ρ1){e:Exit}{a':Ca}{S':St}{e':Exit}{C7:Act}{w':World}(k:Ib P w0 ρ1 e a' S' e' C7 w'):Ib P w0 ρ e a' S' e' C7 w':=by
 obtain⟨r,a,b,c,d⟩:=k;exact⟨r,h.trans a,b,c,d⟩
structure DU(P:Program)(w0:Bi)(ih:Ap):Prop where
 call:∀t args S e S',ih.call t args S=some (e,S')→∀ρ w t' args',AW P w0 ρ S w→V2 ρ t t'→AS ρ args args'.toList→Kj P (Fu P w0 ρ e S') ((invoke t' args').run P w)
 exec:∀ro c a S e a' S',ih.exec ro c a S=some (e,a',S')→∀ρ w ar ro',AW P w0 ρ S w→Bh ρ a ar→Tn ρ ro ro'→c.wpIn (FW ro') 0 P (Ib P w0 ρ e a' S') ar w
theorem Ks{r:Option Nat}{o:Oper}{w:World}{g:Operand→Value}:∀f,o.about P w g=some f→(FW r).fn f:=fun _ _=>trivial
structure eN(P:Program)(w0:Bi)(ρ:AI)(x:QX)(S':St)(o:Oper)(ar:Act)(next:Act→World→Prop)(Q:Exit→Act→World→Prop):Prop where
 val:∀v,x= .val v→∀ρ' v' w',Ext ρ ρ'→VR ρ' v v'→AW P w0 ρ' S' w'→next (ar.put o.dst v') w'
 Ab:∀c,x= .Ab c→∀ρ' c' w',Ext ρ ρ'→JI ρ' c c'→AW P w0 ρ' S' w'→Q (.panic c') ar w'
theorem od{ρ:AI}{S':St}{o:Oper}{ar:Act}{next:Act→World→Prop}{Q:Exit→Act→World→Prop}{r:Option Nat}{v:Value}{res:Result Next}
  (h:NA P w0 ρ v S' res)(hl:eN P w0 ρ (.val v) S' o ar next Q):o.uponIn (FW r) 0 P ar next Q res:=by
 obtain⟨ρ',v',w',hr,a,b,c⟩:=h
 rcases hr with rfl|⟨rfl,rfl⟩
 ·exact hl.val v rfl ρ' v' w' a b c
 exact hl.val v rfl ρ' undef w' a b c
theorem CallsIn.Yg{r:Option Nat}{f:FuncId}{args:Array Value}{w:World}{R:Ending→World→Prop}(h:CallsIn Fence.wide 0 P f args w R):CallsIn (FW r) 0 P f args w R:=h
theorem RoundIn.Yg{r:Option Nat}{l:Nat}{f:FuncId}{tmps:Array Value}{x y:Code}{w:World}{R:Ending→World→Prop}(h:RoundIn Fence.wide 0 P l f tmps x y w R):RoundIn (FW r) 0 P l f tmps x y w R:=h
theorem oe{ρ:AI}{S':St}{o:Oper}{ar:Act}{next:Act→World→Prop}{Q:Exit→Act→World→Prop}{r:Option Nat}{e:Ending}{x:QX}{res:Result Next}
  (h:Kj P (Fu P w0 ρ e S') res)(hx:(∃v,e= .returned v∧x= .val v)∨(∃c,e= .panicked c∧x= .Ab c))(hl:eN P w0 ρ x S' o ar next Q):o.uponIn (FW r) 0 P ar next Q res:=by
 have key:∀e' w',Fu P w0 ρ e S' e' w'→(match e' with
   | .returned v=>next (ar.put o.dst v) w'
   | .panicked chain=>Q (.panic chain) ar w'
   | .outgrown=>LetsOut Q):=by
  intro e' w' hg
  obtain⟨ρ',a,b,c⟩:=hg
  rcases hx with ⟨v,rfl,rfl⟩|⟨ch,rfl,rfl⟩
  ·cases b with|ret hv=>exact hl.val v rfl ρ' _ w' a hv c
  cases b with|Ab hv=>exact hl.Ab ch rfl ρ' _ w' a hv c
 unfold Kj at h
 split at h
 ·exact key _ _ h
 ·exact⟨fun h=>by simp[FW,Fence.wide]at h,CallsIn.Yg (CallsIn.mono h fun e' w' hg=>by have:=key e' w' hg;cases e'<;>exact this)⟩
 ·exact⟨fun h=>by simp[FW,Fence.wide]at h,RoundIn.Yg (RoundIn.mono h fun e' w' hg=>by have:=key e' w' hg;cases e'<;>exact this)⟩
 exact h.elim
theorem nf{o:Oper}(g:Operand→Value){c:Call}(ho:o.op= .call c)(w:World){d:Deferred}(hr:(resolve g c o.type).run P w= .ok d w) :
  (execOp g o).run P w=(invoke d.target d.args).run P w:=by
 simp only[execOp,ho,Sem.run_bind,hr,Result.andThen_ok]
theorem rq{ih:Ap}(Av:DU P w0 ih){ρ:AI}{S S':St}{w:World}(hs:AW P w0 ρ S w){o:Oper}{f g:Operand→Value}{c:Call}(ho:o.op= .call c)
  (Ax:∀x,x∈o.op.operands→VR ρ (f x) (g x)){e:Ending}(h:Oh ih f c S=some (e,S')):Kj P (Fu P w0 ρ e S') ((execOp g o).run P w):=by
 unfold Oh at h
 have O3:(∀x,x∈c.args→VR ρ (f x) (g x)):=by
  intro x hx
  refine Ax x ?_
  rw[ho]
  cases hc:c.callee<;>simp[Op.operands,Call.operands,hc,hx]
 split at h
 ·cases h
 ·rename_i r name hc
  rw[nf (P:=P) g ho w (d:={target:= .fn (.method name) #[],args:= #[g r]++c.args.map g}) (by simp[resolve,hc])]
  refine Av.call _ _ _ _ _ h ρ w _ _ hs ⟨_,_,_,_,rfl,rfl,.method name rfl N9 rfl N9⟩ ?_
  simp only[Array.toList_append,Array.toList_map]
  exact AS.cons (Ax r (by rw[ho];simp[Op.operands,Call.operands,hc])) (AS.PS _ fun x hx=>O3 x (by simpa using hx))
 rename_i fv hc
 split at h
 ·rename_i fn first cap hf
  have hv:=Ax fv (by rw[ho];simp[Op.operands,Call.operands,hc])
  rw[hf]at hv
  obtain⟨H5,Gw,BM,hg,h1,h2⟩:=hv.gW
  rw[nf (P:=P) g ho w (d:={target:= .fn H5 BM,args:=Gw++c.args.map g}) (by simp[resolve,hc,hg,Deferred.ofValue])]
  refine Av.call _ _ _ _ _ h ρ w _ _ hs ⟨_,_,_,_,rfl,rfl,h1⟩ ?_
  rw[Array.toList_append]
  exact h2.append (ed O3)
 cases h
theorem Tc{ih:Ap}(Av:DU P w0 ih){ρ:AI}{S S':St}{w:World}(hs:AW P w0 ρ S w){o:Oper}{f g:Operand→Value}
  (Ax:∀x,x∈o.op.operands→VR ρ (f x) (g x)){x:QX}(h:CG P ih f o.op S=some (x,S')){ar:Act}{next:Act→World→Prop}{Q:Exit→Act→World→Prop}{r:Option Nat}
  (hl:eN P w0 ρ x S' o ar next Q):o.uponIn (FW r) 0 P ar next Q ((o.semAt r g).run P w):=by
 have hd:∀c,o.op≠ .defer c:=by
  intro c hc
  rw[hc]at h
  simp[CG,kindOf,KH]at h
 rw[Oper.semAt_eq _ _ _ hd]
 unfold CG at h
 split at h
 ·split at h
  ·rename_i v hv
   cases h
   obtain⟨v',a,b⟩:=zI hs Ax hv
   rw[a]
   exact hl.val v rfl ρ v' w (Ext.refl _) b hs
  cases h
 ·split at h
  ·rename_i v S1 hv
   cases h
   exact od (xq hs Ax hv) hl
  cases h
 split at h
 ·rename_i b args ts ho
  split at h
  ·rename_i v S1 hv
   cases h
   exact od (rZ hs ho (fun y hy=>Ax y (by rw[ho];simp[Op.operands,Call.operands];exact hy)) hv) hl
  cases h
 ·rename_i c _ ho
  split at h
  ·rename_i v S1 hv
   cases h
   exact oe (rq Av hs ho Ax hv) (.inl ⟨_,rfl,rfl⟩) hl
  ·rename_i ch S1 hv
   cases h
   exact oe (rq Av hs ho Ax hv) (.inr ⟨_,rfl,rfl⟩) hl
  cases h
 ·rename_i y ho
  split at h
  ·rename_i t v hy
   cases h
   have hv:=Ax y (by rw[ho];simp[Op.operands])
   rw[hy]at hv
   generalize hg:g y=gy at hv
   cases hv with
   |iface _ F1 =>
    rename_i v'
    have e:(execOp g o).run P w= .halt (.panic (.iface t v')) w:=by
     simp[execOp,ho,Instr.panic,hg]
    rw[e]
    exact hl.Ab _ rfl ρ _ w (Ext.refl _) (.cons false false (.iface t F1) .nil) hs
  cases h
 split at h
 ·rename_i v S1 hv
  cases h
  exact od (uQ hs Ax hv) hl
 cases h
end Go.Cm
namespace Go.Cm
open Go
variable{P:Program}{w0:Bi}{K:BX}
def NB(P:Program)(o:Oper):Prop:= ∀x,x∈o.op.operands→(match x with
    | .const v=>Dx L8 v
    | .global g=>Nat.blt g P.globals.size
    |_=>true)=true
theorem Qj{l:List Oper}(h:D' P l=true):∀o,o∈l→NB P o:=by
 intro o ho x hx
 unfold D' at h
 rw[List.all_eq_true]at h
 have h1:=h o ho
 rw[List.all_eq_true]at h1
 exact h1 x (by simpa using hx)
theorem Bh.D3{ρ:AI}{S:St}{w:World}(hs:AW P w0 ρ S w){a:Ca}{ar:Act}(h:Bh ρ a ar){o:Oper}(hc:NB P o):∀x,x∈o.op.operands→VR ρ (a.ev x) (ar.eval x) :=
 fun x hx=>AFK hs h (hc x hx)
theorem na{ih:Ap}(Av:DU P w0 ih){ops:Array Oper}{ro:Option Nat}{e:Exit}{a1:Ca}{S1:St}{Q:Exit→Act→World→Prop} :
  ∀(rest:List Oper) (a:Ca) (S:St),BT P ih ops.toList rest a S=some (e,a1,S1)→(∀o,o∈rest→NB P o)→∀(ρ:AI) (w:World) (ar:Act),AW P w0 ρ S w→Bh ρ a ar →
   (∀e' C7 w',Ib P w0 ρ e a1 S1 e' C7 w'→Q e' C7 w')→wpListIn (FW ro) 0 P ops Q rest ar w
 | [],a,S,h,_,ρ,w,ar,hs,ha,hQ=>by
  simp only[BT,Option.some.injEq,Prod.mk.injEq]at h
  obtain⟨rfl,rfl,rfl⟩:=h
  exact hQ _ _ _ ⟨ρ,Ext.refl _,.normal,ha,hs⟩
 |o::rest,a,S,h,hc,ρ,w,ar,hs,ha,hQ=>by
  unfold BT at h
  have RR:=Tg ha (ops:=ops) (o:=o)
  unfold wpListIn
  rw[←RR]
  cases hw:Du ops.toList a o with
  |false =>
   rw[hw]at h
   simp only[cond_false]at h
   split at h
   ·rename_i a2 hp
    simp only[Bool.false_eq_true,if_false]
    exact⟨Ks,na Av rest a2 S h (fun o ho=>hc o (by simp[ho])) ρ w _ hs (ha.put hp (VR.undef _)) hQ⟩
   cases h
  |true =>
   rw[hw]at h
   simp only[cond_true]at h
   simp only[if_true]
   refine⟨Ks,?_⟩
   split at h
   ·rename_i v S2 BL
    split at h
    ·rename_i a2 hp
     refine Tc Av hs (ha.D3 hs (hc o (by simp))) BL ⟨?_,?_⟩
     ·intro v2 e2 ρ' v' w' h1 h2 h3
      cases e2
      exact na Av rest a2 S2 h (fun o ho=>hc o (by simp[ho])) ρ' w' _ h3 ((ha.mono h1).put hp h2) (fun e' C7 w' hg=>hQ _ _ _ (hg.mono h1))
     intro c e2;cases e2
    cases h
   ·rename_i ch S2 BL
    simp only[Option.some.injEq,Prod.mk.injEq]at h
    obtain⟨rfl,rfl,rfl⟩:=h
    refine Tc Av hs (ha.D3 hs (hc o (by simp))) BL ⟨?_,?_⟩
    ·intro v2 e2;cases e2
    intro c e2 ρ' c' w' h1 h2 h3
    cases e2
    exact hQ _ _ _ ⟨ρ',h1,.Ab h2,ha.mono h1,h3⟩
   cases h
theorem AJ5{ih:Ap}(Av:DU P w0 ih){id:Nat}{ops:Array Oper}{ro:Option Nat}{e:Exit}{a a1:Ca}{S S1:St}(h:BT P ih ops.toList ops.toList a S=some (e,a1,S1))(hc:D' P ops.toList=true)
  {ρ:AI}{w:World}{ar:Act}(hs:AW P w0 ρ S w)(ha:Bh ρ a ar):(Code.region id ops false).wpIn (FW ro) 0 P (Ib P w0 ρ e a1 S1) ar w :=
 wpIn_region_list (na Av ops.toList a S h (Qj hc) ρ w ar hs ha fun _ _ _ h=>h)
end Go.Cm
namespace Go.Cm
open Go
variable{P:Program}{w0:Bi}{K:BX}
section
variable{F:Fence}{n:Nat}{b:Frame}{a:Act}{k:List Item}{cs:List Frame}{w:World}{Q:Exit→Act→World→Prop}
theorem Vk{c:Code}:step P (lone (b.atR a (.code (.scope c)::k)) cs w)= .next (lone (b.atR a (.code c:: .inScope c::k)) cs w) :=
 step_lone_go (by simp[stepG,stepG.exec,Frame.atR])
theorem AO0{c:Code}:step P (lone (b.atR a (.inScope c::k)) cs w)= .next (lone (b.atR a k) cs w) :=
 step_lone_go (by simp[stepG,stepG.exec,Frame.atR])
theorem ASn{c:Code}(h:c.wpIn F n P (Exit.noGoto Q) a w):(Code.scope c).wpIn F n P Q a w:=by
 intro b k cs ID hb hr
 have h0:(lone (b.atR a (.code (.scope c)::k)) cs w).fenced P F:=fenced_calm hb hr rfl
 obtain⟨e,a₁,w₁,hq,O4⟩:=h b (.inScope c::k) cs ID hb hr
 cases e with
 |normal=>exact⟨.normal,a₁,w₁,hq,.head h0 Vk (StepsIn.trans O4 (.one (fenced_calm hb hr rfl) AO0))⟩
 |exit id =>
  have hx:exitTo id (.inScope c::k)=exitTo id k:=by simp[exitTo]
  exact⟨_,a₁,w₁,hq,fun k' hk=> .head h0 Vk (O4.1 k' (by rw[hx];exact hk)),
   fun FG hk=>let⟨k₁,h1,h2⟩:=O4.2 FG (by rw[hx];exact hk);⟨k₁,h1,.head h0 Vk h2⟩⟩
 |goto l=>exact hq.elim
 |ret=>exact⟨_,a₁,w₁,hq,.of_steps (.one h0 Vk) O4⟩
 |panic ch=>exact⟨_,a₁,w₁,hq,.of_steps (.one h0 Vk) O4⟩
 |outgrown=>exact⟨_,a₁,w₁,hq,.of_steps (.one h0 Vk) O4⟩
end
def p9(P:Program)(w0:Bi)(ih:Ap):Prop :=
 ∀(id:Nat) (ops:Array Oper) (a:Ca) (S:St) (e:Exit) (a1:Ca) (S1:St),OH P ih ops.toList a S=some (e,a1,S1)→D' P ops.toList=true →
  ∀(ro:Option Nat) (ρ:AI) (w:World) (ar:Act),AW P w0 ρ S w→Bh ρ a ar→(Code.region id ops true).wpIn (FW ro) 0 P (Ib P w0 ρ e a1 S1) ar w
def qH(P:Program)(w0:Bi)(ih:Ap):Prop :=
 ∀(ro:Option Nat) (g:Operand) (ps:Array Tmp) (x y:Code) (a:Ca) (S:St) (e:Exit) (a1:Ca) (S1:St),Bx P ih ro (.rangeFunc g ps x y) a S=some (e,a1,S1) →
  ∀(ρ:AI) (w:World) (ar:Act) (ro':Option Nat),AW P w0 ρ S w→Bh ρ a ar→Tn ρ ro ro'→(Code.rangeFunc g ps x y).wpIn (FW ro') 0 P (Ib P w0 ρ e a1 S1) ar w
theorem fD{ρ:AI}{a:Ca}{ar:Act}(h:Bh ρ a ar){c:Operand}{t:Bool}(hc:a.ev c= .bool t):ar.eval c= .bool t:=by
 cases c with
 |tmp i =>
  have hv:=h.get i
  have Fj:a.get i= .bool t:=hc
  rw[Fj]at hv
  show ar.tmps.getD i undef= .bool t
  generalize ar.tmps.getD i undef=u at hv
  cases hv;rfl
 |const v=>exact hc
 |global g=>cases hc
 |func f=>cases hc
theorem AFN{n:Nat}(Cy:∀m,m≤n→DU P w0 (fns P K m))(hd:p9 P w0 (fns P K n))(hr:qH P w0 (fns P K n)) :
  ∀ro c a S e a' S',Bx P (fns P K n) ro c a S=some (e,a',S')→∀ρ w ar ro',AW P w0 ρ S w→Bh ρ a ar→Tn ρ ro ro'→c.wpIn (FW ro') 0 P (Ib P w0 ρ e a' S') ar w:=by
 intro ro c a S e a1 S1 h ρ w ar ro' hs ha ID
 have Av:=Cy n (Nat.le_refl _)
 cases c with
 |skip =>
  simp only[Bx,Option.some.injEq,Prod.mk.injEq]at h
  obtain⟨rfl,rfl,rfl⟩:=h
  exact wpIn_skip ⟨ρ,Ext.refl _,.normal,ha,hs⟩
 |label l =>
  simp only[Bx,Option.some.injEq,Prod.mk.injEq]at h
  obtain⟨rfl,rfl,rfl⟩:=h
  exact wpIn_label ⟨ρ,Ext.refl _,.normal,ha,hs⟩
 |exit id =>
  simp only[Bx,Option.some.injEq,Prod.mk.injEq]at h
  obtain⟨rfl,rfl,rfl⟩:=h
  exact wpIn_exit ⟨ρ,Ext.refl _,.exit id,ha,hs⟩
 |ret =>
  simp only[Bx,Option.some.injEq,Prod.mk.injEq]at h
  obtain⟨rfl,rfl,rfl⟩:=h
  exact wpIn_ret ⟨ρ,Ext.refl _,.ret,ha,hs⟩
 |region id ops draw =>
  simp only[Bx]at h
  cases hc:D' P ops.toList with
  |false=>rw[hc]at h;cases h
  |true =>
   rw[hc]at h
   cases draw with
   |false=>exact AJ5 Av h hc hs ha
   |true=>exact hd id ops a S e a1 S1 h hc ro' ρ w ar hs ha
 |seq x y =>
  simp only[Bx]at h
  refine wpIn_seq ?_
  split at h
  ·rename_i a2 S2 hx
   refine wpIn_mono (Av.exec _ _ _ _ _ _ _ hx ρ w ar ro' hs ha ID) ?_
   rintro e2 DX w2 ⟨ρ2,h1,h2,h3,h4⟩
   cases h2
   exact wpIn_mono (Av.exec _ _ _ _ _ _ _ h ρ2 w2 DX ro' h4 h3 (ID.mono h1)) fun _ _ _ hg=>hg.mono h1
  rename_i Ac
  refine wpIn_mono (Av.exec _ _ _ _ _ _ _ h ρ w ar ro' hs ha ID) ?_
  rintro e2 DX w2 ⟨ρ2,h1,h2,h3,h4⟩
  cases h2 with
  |normal=>exact absurd h (Ac _ _)
  |exit id=>exact⟨ρ2,h1,.exit id,h3,h4⟩
  |ret=>exact⟨ρ2,h1,.ret,h3,h4⟩
  |Ab hp=>exact⟨ρ2,h1,.Ab hp,h3,h4⟩
 |cond c x y =>
  simp only[Bx]at h
  split at h
  ·rename_i t hc
   refine wpIn_cond (fD ha hc) ?_
   cases t<;>exact Av.exec _ _ _ _ _ _ _ h ρ w ar ro' hs ha ID
  cases h
 |block id c =>
  simp only[Bx]at h
  refine wpIn_block ?_
  split at h
  ·rename_i j a2 S2 hx
   refine wpIn_mono (Av.exec _ _ _ _ _ _ _ hx ρ w ar ro' hs ha ID) ?_
   rintro e2 DX w2 ⟨ρ2,h1,h2,h3,h4⟩
   cases h2
   unfold Exit.inBlock
   cases hj:Nat.beq j id with
   |true =>
    rw[hj]at h
    simp only[cond_true,Option.some.injEq,Prod.mk.injEq]at h
    obtain⟨rfl,rfl,rfl⟩:=h
    have:j=id:=Nat.eq_of_beq_eq_true hj
    simp only[this,if_true]
    exact⟨ρ2,h1,.normal,h3,h4⟩
   |false =>
    rw[hj]at h
    simp only[cond_false,Option.some.injEq,Prod.mk.injEq]at h
    obtain⟨rfl,rfl,rfl⟩:=h
    have:j≠id:=Nat.ne_of_beq_eq_false hj
    simp only[this,if_false]
    exact⟨ρ2,h1,.exit j,h3,h4⟩
  rename_i Ac
  refine wpIn_mono (Av.exec _ _ _ _ _ _ _ h ρ w ar ro' hs ha ID) ?_
  rintro e2 DX w2 ⟨ρ2,h1,h2,h3,h4⟩
  cases h2 with
  |normal=>exact⟨ρ2,h1,.normal,h3,h4⟩
  |exit id=>exact absurd h (Ac _ _ _)
  |ret=>exact⟨ρ2,h1,.ret,h3,h4⟩
  |Ab hp=>exact⟨ρ2,h1,.Ab hp,h3,h4⟩
 |loop c =>
  refine wpIn_loop_ghost (fun m ar w=>m≤n∧∃a S ρ1,Ext ρ ρ1∧Bx P (fns P K m) ro (.loop c) a S=some (e,a1,S1)∧AW P w0 ρ1 S w∧Bh ρ1 a ar) n ⟨Nat.le_refl _,a,S,ρ,Ext.refl _,h,hs,ha⟩ ?_
  rintro m ar w ⟨hm,a,S,ρ1,LI,h,hs,ha⟩
  have Av:=Cy m hm
  have vK:=ID.mono LI
  simp only[Bx]at h
  split at h
  ·rename_i a2 S2 hx
   refine wpIn_mono (Av.exec _ _ _ _ _ _ _ hx ρ1 w ar ro' hs ha vK) ?_
   rintro e2 DX w2 ⟨ρ2,h1,h2,h3,h4⟩
   cases h2
   cases m with
   |zero=>cases h
   |succ m=>exact⟨m,Nat.lt_succ_self _,by omega,a2,S2,ρ2,LI.trans h1,h,h4,h3⟩
  rename_i Ac
  refine wpIn_mono (Av.exec _ _ _ _ _ _ _ h ρ1 w ar ro' hs ha vK) ?_
  rintro e2 DX w2 ⟨ρ2,h1,h2,h3,h4⟩
  cases h2 with
  |normal=>exact absurd h (Ac _ _)
  |exit id=>exact⟨ρ2,LI.trans h1,.exit id,h3,h4⟩
  |ret=>exact⟨ρ2,LI.trans h1,.ret,h3,h4⟩
  |Ab hp=>exact⟨ρ2,LI.trans h1,.Ab hp,h3,h4⟩
 |scope c =>
  simp only[Bx]at h
  refine ASn ?_
  split at h
  ·cases h
  refine wpIn_mono (Av.exec _ _ _ _ _ _ _ h ρ w ar ro' hs ha ID) ?_
  rintro e2 DX w2 ⟨ρ2,h1,h2,h3,h4⟩
  cases h2 with
  |normal=>exact⟨ρ2,h1,.normal,h3,h4⟩
  |exit id=>exact⟨ρ2,h1,.exit id,h3,h4⟩
  |ret=>exact⟨ρ2,h1,.ret,h3,h4⟩
  |Ab hp=>exact⟨ρ2,h1,.Ab hp,h3,h4⟩
 |rangeFunc g ps x y=>exact hr ro g ps x y a S e a1 S1 h ρ w ar ro' hs ha ID
 |goto l=>cases h
 |refuse r=>cases h
end Go.Cm
namespace Go.Cm
open Go
variable{P:Program}{w0:Bi}{K:BX}
theorem pw{w:World}{r:Nat}{o o':Obj}(h:w.heap[r]?=some o):Kr r o' w (w.putObj r o'):=by
 have AN:r<w.heap.size:=(Array.getElem?_eq_some_iff.1 h).1
 refine⟨fun k hk=>?_,?_,?_,rfl,rfl⟩
 ·simp only[World.putObj]
  rw[Array.getElem?_setIfInBounds,if_neg (fun e=>hk e.symm)]
 ·simp[World.putObj,AN]
 simp[World.putObj]
theorem Rl{S:St}{l:Nat}{st:LoopState}{p:Option Code}{n:Nat}{t:Tm}{ps:List Tmp}{x y:Code}{d:Nat}(h:N5 S l=some (st,p,n,t,ps,x,y,d)):S.get l=some (.loop st p n t ps x y d):=by
 unfold N5 at h
 split at h
 ·rename_i hg
  simp only[Option.some.injEq,Prod.mk.injEq]at h
  obtain⟨rfl,rfl,rfl,rfl,rfl,rfl,rfl,rfl⟩:=h
  exact hg
 cases h
theorem AW.X'{ρ:AI}{S:St}{w:World}(hs:AW P w0 ρ S w){l:Nat}{L:Loc}(hl:ρ l=some L){st st':LoopState}{p p':Option Code}{n:Nat}{t:Tm}{ps:List Tmp}{x y:Code}{d:Nat}
  (hB:S.get l=some (.loop st p n t ps x y d)):∃(r:Loop),w.heap[L.r]?=some (.loop r)∧r.state=st∧r.pending=p ∧
   AW P w0 ρ (S.set l (.loop st' p' n t ps x y d)) (w.putObj L.r (.loop {r with state:=st',pending:=p'})):=by
 obtain⟨fn,tmps,D,h1,h2,h3⟩:=hs.Bn _ _ _ hl hB
 refine⟨_,h1,rfl,rfl,?_⟩
 have:=AW.put hs (B':= .loop st' p' n t ps x y d) hl hB rfl (pw h1 (o':= .loop {state:=st',pending:=p',fn:=fn,tmps:=tmps,params:=ps.toArray,assign:=x,body:=y,defers:=D.r})) ⟨fn,tmps,D,rfl,h2,h3⟩
 exact this
theorem fC{fn:Fn}(h:Qh P fn=true)(cap args:Array Value)(w:World):∃f,fn= .func f∧(invoke (.fn fn cap) args).run P w= .ok (.enter f (args++cap)) w:=by
 unfold Qh at h
 split at h
 ·rename_i f
  split at h
  ·rename_i F hF
   simp only[Bool.and_eq_true,Bool.not_eq_true']at h
   refine⟨f,rfl,?_⟩
   have h1:F.name≠ "runtime.NumGoroutine" :=by simpa using h.1
   have hb:F.body≠none:=by
    intro hb;rw[hb]at h;simp at h
   simp[invoke,callFunc,hF,h1,hb]
  cases h
 cases h
theorem zB{ih:Ap}(Av:DU P w0 ih){ro':Option Nat}{g:Operand}{ps:Array Tmp}{x y:Code}{a a1:Ca}{S S1:St}{e:Exit}{ρ ρ1:AI}{w1:World}{ar:Act}{f0:FuncId}{d:Nat}{D:Loc}{mark mark':List Deferred}
  {fn H5:Fn}{first cap Gw BM:Array Value}(hx:Ext ρ ρ1)(hs:AW P w0 ρ1 S w1)(ha:Bh ρ1 a ar)(hd:ρ1 d=some D)(hm:IZ ρ1 mark mark')(hg:ar.eval g= .func H5 Gw BM)
  (hf:VR ρ1 (.func fn #[] cap) (.func H5 #[] BM))(hv:AS ρ1 first.toList Gw.toList)(hb:Qh P fn=true)
  (h:(match S.new (.loop .ready none a.n a.t ps.toList x y d)with
    |(l,S2)=>match ih.call (.fn fn cap) (first.toList++[.func (.yield l) #[] #[]]) S2 with
     |some (.returned _,S3)=>match N5 S3 l with
      |some (st,p,n,t,ps,x,y,d)=>bif (st==LoopState.busy)then none else
       match {a with defers:=mark++a.defers},S3.set l (.loop .exhausted p n t ps x y d)with
       |a',S4=>match p with
        |none=>some (Exit.normal,a',S4)
        |some .ret=>some (.ret,a',S4)
        |some (.exit id)=>some (.exit id,a',S4)
        |_=>none
      |none=>none
     |some (.panicked ch,S3)=>some (.panic ch, {a with defers:=mark++a.defers},S3)
     |_=>none)=some (e,a1,S1)) :
  ∃(d':Deferred) (w₁':World) (f:FuncId) (args:Array Value) (w₂:World),
   (resolve ar.eval (rangeCall g w1.heap.size) 0).run P (w1.alloc (.loop {state:= .ready,pending:=none,fn:=f0,tmps:=ar.tmps,params:=ps,assign:=x,body:=y,defers:=D.r}))= .ok d' w₁' ∧
   (invoke d'.target d'.args).run P w₁'= .ok (.enter f args) w₂ ∧
   CallsIn (FW ro') 0 P f args w₂ (rangePost (FW ro') 0 P w1.heap.size (Ib P w0 ρ e a1 S1) {ar with defers:=mark'++ar.defers}):=by
 obtain⟨KN,Iy⟩:=hs.add (B:= .loop .ready none a.n a.t ps.toList x y d) (o:= .loop {state:= .ready,pending:=none,fn:=f0,tmps:=ar.tmps,params:=ps,assign:=x,body:=y,defers:=D.r}) (L:=⟨w1.heap.size,0,0,0⟩) rfl
  ⟨f0,ar.tmps,D,rfl,ha.tm.mono (Ot _ (by
   cases hx:ρ1 S.size with
   |none=>rfl
   |some M=>exact absurd (hs.Dj _ _ hx).1 (Nat.lt_irrefl _))),Ot _ (by
   cases hx:ρ1 S.size with
   |none=>rfl
   |some M=>exact absurd (hs.Dj _ _ hx).1 (Nat.lt_irrefl _)) _ _ hd⟩
 generalize PG:w1.alloc (.loop {state:= .ready,pending:=none,fn:=f0,tmps:=ar.tmps,params:=ps,assign:=x,body:=y,defers:=D.r})=w2 at Iy ⊢
 generalize hρ2:Bb ρ1 S.size ⟨w1.heap.size,0,0,0⟩=ρ2 at KN Iy
 have CY:ρ2 S.size=some ⟨w1.heap.size,0,0,0⟩:=by rw[←hρ2];exact Ju _ _ _
 simp only[St.new]at h
 have Q8:∃f,fn= .func f∧H5= .func f:=by
  obtain⟨f,e1,_⟩:=fC hb #[] #[] w1
  subst e1
  cases hf with
  |func f _ _ _ _=>exact⟨f,rfl,rfl⟩
 obtain⟨f,rfl,rfl⟩:=Q8
 refine⟨{target:= .fn (.func f) BM,args:=Gw++ #[.func (.yield w1.heap.size) #[] #[]]},w2,f,(Gw++ #[.func (.yield w1.heap.size) #[] #[]])++BM,w2,?_,?_,?_⟩
 ·have e1:ar.eval (.const (.func (.yield w1.heap.size) #[] #[]))= .func (.yield w1.heap.size) #[] #[]:=rfl
  simp[resolve,hg,Deferred.ofValue,e1]
 ·obtain⟨f',e1,e2⟩:=fC hb BM (Gw++ #[.func (.yield w1.heap.size) #[] #[]]) w2
  cases e1
  exact e2
 have key:∀E S3,ih.call (.fn (.func f) cap) (first.toList++[.func (.yield S.size) #[] #[]]) ⟨S.heap.set S.size (some (.loop .ready none a.n a.t ps.toList x y d)),S.size+1⟩=some (E,S3) →
   CallsIn Fence.wide 0 P f ((Gw++ #[.func (.yield w1.heap.size) #[] #[]])++BM) w2 (Fu P w0 ρ2 E S3):=by
  intro E S3 JZ
  have:=Av.call _ _ _ _ _ JZ ρ2 w2 (.fn (.func f) BM) (Gw++ #[.func (.yield w1.heap.size) #[] #[]]) Iy ⟨_,_,_,_,rfl,rfl,hf.mono KN⟩ (by
   rw[Array.toList_append]
   exact(hv.mono KN).append (AS.cons (.yield CY) AS.nil))
  obtain⟨f',e1,e2⟩:=fC hb BM (Gw++ #[.func (.yield w1.heap.size) #[] #[]]) w2
  cases e1
  rw[e2]at this
  exact this
 split at h
 ·rename_i v S3 JZ
  refine CallsIn.Yg (CallsIn.mono (key _ _ JZ) ?_)
  rintro e' w3 ⟨ρ3,h1,h2,h3⟩
  cases h2 with
  |ret aX =>
   split at h
   ·rename_i st p n t U' x2 y2 d2 HI
    have hB:=Rl HI
    obtain⟨r,hr,BL,hp,jO⟩:=AW.X' (st':= .exhausted) (p':=p) h3 (h1 _ _ CY) hB
    cases aF:(st==LoopState.busy)with
    |true=>rw[aF]at h;cases h
    |false =>
     rw[aF]at h
     simp only[cond_false]at h
     have RH:r.state≠ .busy:=by
      rw[BL];intro e;rw[e]at aF;exact absurd aF (by decide)
     have ia:=run_endLoop (P:=P) hr RH
     rw[hp]at ia
     have Nf:Bh ρ3 {a with defers:=mark++a.defers} {ar with defers:=mark'++ar.defers} :=
      ⟨ha.le,(ha.tm.mono KN).mono h1,((hm.mono KN).mono h1).append ((ha.df.mono KN).mono h1)⟩
     have KO:Ext ρ ρ3:=hx.trans (KN.trans h1)
     refine⟨p,_,ia,?_⟩
     split at h
     ·simp only[Option.some.injEq,Prod.mk.injEq]at h
      obtain⟨rfl,rfl,rfl⟩:=h
      exact⟨ρ3,KO,.normal,Nf,jO⟩
     ·simp only[Option.some.injEq,Prod.mk.injEq]at h
      obtain⟨rfl,rfl,rfl⟩:=h
      exact wpIn_ret ⟨ρ3,KO,.ret,Nf,jO⟩
     ·simp only[Option.some.injEq,Prod.mk.injEq]at h
      obtain⟨rfl,rfl,rfl⟩:=h
      exact wpIn_exit ⟨ρ3,KO,.exit _,Nf,jO⟩
     cases h
   cases h
 ·rename_i ch S3 JZ
  simp only[Option.some.injEq,Prod.mk.injEq]at h
  obtain⟨rfl,rfl,rfl⟩:=h
  refine CallsIn.Yg (CallsIn.mono (key _ _ JZ) ?_)
  rintro e' w3 ⟨ρ3,h1,h2,h3⟩
  cases h2 with
  |Ab hp=>exact⟨ρ3,hx.trans (KN.trans h1),.Ab hp,⟨ha.le,(ha.tm.mono KN).mono h1,((hm.mono KN).mono h1).append ((ha.df.mono KN).mono h1)⟩,h3⟩
 cases h
theorem AJj{ih:Ap}(Av:DU P w0 ih):qH P w0 ih:=by
 intro ro g ps x y a S e a1 S1 h ρ w ar ro' hs ha ID
 simp only[Bx]at h
 split at h
 ·rename_i fn first cap Ax
  cases hc:(isConst g||!Qh P fn)with
  |true=>rw[hc]at h;cases h
  |false =>
   rw[hc]at h
   simp only[cond_false]at h
   rw[Bool.or_eq_false_iff]at hc
   have hb:Qh P fn=true:=by simpa using hc.2
   have hv:VR ρ (a.ev g) (ar.eval g):=by
    cases g with
    |tmp t=>exact ha.get t
    |const v=>exact absurd hc.1 (by simp[isConst])
    |global k=>cases Ax
    |func f=>exact(Flat.func f).refl ρ
   rw[Ax]at hv
   obtain⟨H5,Gw,BM,Fl,h1,h2⟩:=hv.gW
   refine wpIn_rangeFunc fun f0 _=>?_
   rcases ID with ⟨rfl,rfl⟩|⟨l,L,rfl,hl,rfl⟩
   ·simp only[St.new]at h
    obtain⟨LI,Cc⟩:=hs.add (B:= .defs false) (o:= .deferred (some [])) (L:=⟨w.heap.size,0,0,0⟩) rfl rfl
    have hd:Bb ρ S.size ⟨w.heap.size,0,0,0⟩ S.size=some ⟨w.heap.size,0,0,0⟩:=Ju _ _ _
    obtain⟨d',pq,f,args,w2,r1,r2,r3⟩:=zB (ro':=none) (f0:=f0) (mark':=[{target:= .collected w.heap.size,args:= #[]}]) Av LI Cc (ha.mono LI) hd (.cons (.inl ⟨_,_,rfl,hd,rfl⟩) .nil) Fl (h1.mono LI) (h2.mono LI) hb h
    refine⟨_,_,_,d',pq,f,args,w2,run_enterLoop_outer _ _ _ _ _,?_,fun _ _=>trivial,r2,fun h=>by simp[FW,Fence.wide]at h,?_⟩
    ·rw[World.size_alloc]at r1
     exact r1
    rw[World.size_alloc]at r3
    exact r3
   simp only at h
   cases HI:N5 S l with
   |none=>rw[HI]at h;cases h
   |some q =>
    obtain⟨st,p,n,t,U',x2,y2,d⟩:=q
    rw[HI]at h
    simp only at h
    obtain⟨fn2,ATW,D,q1,q2,q3⟩:=hs.Bn _ _ _ hl (Rl HI)
    obtain⟨d',pq,f,args,w2,r1,r2,r3⟩:=zB (ro':=some L.r) (f0:=f0) (mark':=[]) Av (Ext.refl ρ) hs ha q3 .nil Fl h1 h2 hb h
    exact⟨_,_,_,d',pq,f,args,w2,run_enterLoop_inner q1 _ _ _ _ _,r1,fun _ _=>trivial,r2,fun h=>by simp[FW,Fence.wide]at h,r3⟩
 cases h
end Go.Cm

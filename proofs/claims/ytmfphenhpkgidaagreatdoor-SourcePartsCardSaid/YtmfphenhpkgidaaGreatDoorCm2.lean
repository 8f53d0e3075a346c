/-
  The evaluator of the model, and that it is sound: part 2.
-/
import Derived.Laws.BytesString
import Derived.Lib.UnsafeStr
import Derived.Lib.Builder
import Derived.RangeFuncIn
import Derived.RangeFuncLeaves
import Derived.OrdersIn
import Derived.Sort.LoopGhostIn
import Derived.TacticsIn
import Derived.Scope
import Derived.RangeFuncNested
import Derived.Test.YtmfphenhpkgidaaGreatDoorCm1
namespace Go.Cm
open Go
variable{P:Program}{w0:Base}
theorem nilCheck_sound{ρ:Rmap}{x x' v:Value}(h:nilCheckV x=some v)(hx:VR ρ x x'):v=x∧(∀t,x'≠ .pointer none∧x'≠ .nilIface∧x'≠ .nilFunc∧∀a b,x'≠ .func (.method t) a b):=by
 unfold nilCheckV at h
 split at h<;>first
  |(cases h;done)
  |(cases h;refine⟨rfl,fun t=>?_⟩;cases hx<;>simp)
theorem VRs.mapOps{ρ:Rmap}{f g:Operand→Value}:∀(l:List Operand),(∀x,x∈l→VR ρ (f x) (g x))→VRs ρ (l.map f) (l.map g)
 | [],_=>VRs.nil
 |x::l,h=>VRs.cons (h x (by simp)) (VRs.mapOps l fun y hy=>h y (by simp[hy]))
theorem map_mk(l:Array Operand)(g:Operand→Value):l.map g=⟨l.toList.map g⟩:=by
 apply Array.ext'
 simp
theorem pure_sound{ρ:Rmap}{o:Oper}{f g:Operand→Value}(hev:∀x,x∈o.op.operands→VR ρ (f x) (g x)){v:Value}(h:pureOp P f o.op=some v)(w:World) :
  ∃v',(execOp g o).run P w= .ok (.value v') w∧VR ρ v v':=by
 cases ho:o.op<;>rw[ho]at h hev<;>simp only[pureOp]at h
 case move x=>cases h;exact⟨_,by simp[execOp,ho],hev x (by simp[Op.operands])⟩
 case assign x=>cases h;exact⟨_,by simp[execOp,ho],hev x (by simp[Op.operands])⟩
 case pick c a b =>
  have hc:=hev c (by simp[Op.operands])
  have ha:=hev a (by simp[Op.operands])
  have hb:=hev b (by simp[Op.operands])
  split at h
  ·rename_i t ht
   cases h
   rw[ht]at hc
   have hg:g c= .bool t:=by
    generalize g c=y at hc ⊢
    cases hc;rfl
   refine⟨if t then g a else g b,by simp[execOp,ho,hg,asBool],?_⟩
   cases t
   ·exact hb
   exact ha
  cases h
 case build t parts =>
  have hp:PartsR ρ (partsV f parts.toList) (parts.map fun(i,x)=>(i,g x)).toList:=by
   refine⟨by simp[partsV],?_⟩
   simp only[partsV,List.map_map,Array.toList_map]
   have:=VRs.mapOps (ρ:=ρ) (f:=f) (g:=g) (parts.toList.map (·.2)) (fun x hx=>hev x (by simpa [Op.operands]using hx))
   simpa [List.map_map,Function.comp_def]using this
  obtain⟨v',a,b⟩:=build_sound h hp w
  exact⟨v',by simp[execOp,ho,a],b⟩
 case nilCheck x =>
  have hx:=hev x (by simp[Op.operands])
  obtain⟨rfl,hn⟩:=nilCheck_sound h hx
  refine⟨g x,?_,hx⟩
  simp only[execOp,ho]
  have h1:=(hn "").1
  have h2:=(hn "").2.1
  have h3:=(hn "").2.2.1
  split
  ·rename_i e;exact absurd e h1
  ·rename_i e;exact absurd e h2
  ·rename_i e;exact absurd e h3
  ·rename_i nm a b e;exact absurd e ((hn nm).2.2.2 _ _)
  rfl
 case binOp op t x y yt =>
  obtain⟨a,b⟩:=binV_sound h (hev x (by simp[Op.operands])) (hev y (by simp[Op.operands])) w
  refine⟨v,?_,b.refl ρ⟩
  simp only[execOp,ho]
  rw[Sem.run_bind,a]
  rfl
 case unOp op t x =>
  obtain⟨a,b⟩:=unV_sound (P:=P) h (hev x (by simp[Op.operands])) w
  exact⟨v,by simp[execOp,ho,a],b.refl ρ⟩
 case makeInterface t x =>
  have hx:=hev x (by simp[Op.operands])
  split at h
  ·cases h
  ·rename_i d hni hu
   cases h
   refine⟨.iface t (g x),?_,.iface t hx⟩
   cases d<;>first
    |exact absurd rfl (hni _)
    |simp[execOp,ho,Instr.makeInterface,run_und w hu]
  cases h
 case makeFunc fn first cap =>
  have h1:=VRs.mapOps (ρ:=ρ) (f:=f) (g:=g) first.toList (fun x hx=>hev x (by simp[Op.operands];left;simpa using hx))
  have h2:=VRs.mapOps (ρ:=ρ) (f:=f) (g:=g) cap.toList (fun x hx=>hev x (by simp[Op.operands];right;simpa using hx))
  split at h
  ·cases h
   exact⟨_,by simp only[execOp,ho,Instr.makeFunc,map_mk];rfl,.func _ h1.1 h1.2 h2.1 h2.2⟩
  ·cases h
   exact⟨_,by simp only[execOp,ho,Instr.makeFunc,map_mk];rfl,.method _ h1.1 h1.2 h2.1 h2.2⟩
  ·cases h
   exact⟨_,by simp only[execOp,ho,Instr.makeFunc,map_mk];rfl,.via _ _ _ _ h1.1 h1.2 h2.1 h2.2⟩
  cases h
 case fieldAddr s x i =>
  obtain⟨v',a,b⟩:=fieldAddr_sound h (hev x (by simp[Op.operands])) w
  exact⟨v',by simp[execOp,ho,a],b⟩
 case field t x i =>
  obtain⟨v',a,b⟩:=field_sound h (hev x (by simp[Op.operands])) w
  exact⟨v',by simp[execOp,ho,a],b⟩
 case indexAddr t x i =>
  obtain⟨v',a,b⟩:=indexAddr_sound h (hev x (by simp[Op.operands])) (hev i (by simp[Op.operands])) w
  exact⟨v',by simp[execOp,ho,a],b⟩
 case index t x i =>
  obtain⟨v',a,b⟩:=index_sound h (hev x (by simp[Op.operands])) (hev i (by simp[Op.operands])) w
  exact⟨v',by simp[execOp,ho,a],b⟩
 case typeAssert x xt t ok =>
  obtain⟨v',a,b⟩:=typeAssert_sound (xT:=xt) h (hev x (by simp[Op.operands])) w
  exact⟨v',by simp[execOp,ho,a],b⟩
 case extract x i =>
  have hx:=hev x (by simp[Op.operands])
  split at h
  ·rename_i vs hvs
   rw[hvs]at hx
   obtain⟨va,hg,hr⟩:=hx.tuple_inv
   rw[nth_eq]at h
   obtain⟨v',a,b⟩:=hr.get h
   have:va[i]?=some v':=by rw[←Array.getElem?_toList];exact a
   exact⟨v',by simp[execOp,ho,hg,Instr.extract,this],b⟩
  cases h
 all_goals cases h
theorem forIn_ok{α:Type}{f:α→PUnit→Sem (ForInStep PUnit)}{w:World}:∀(l:List α),(∀x,x∈l→(f x PUnit.unit).run P w= .ok (ForInStep.yield PUnit.unit) w) →
  (forIn l PUnit.unit f:Sem PUnit).run P w= .ok PUnit.unit w
 | [],_=>by simp
 |x::l,h=>by
  simp only[List.forIn_cons,Sem.run_bind,h x (by simp),Result.andThen_ok]
  exact forIn_ok l fun y hy=>h y (by simp[hy])
theorem keyOk_sound{ρ:Rmap}(empty:Bool):∀(n N:Nat) (t:TypeId) (v v':Value) (w:World),n≤N→keyOk P n t v=true→VR ρ v v'→(Instr.checkKey empty N t v').run P w= .ok () w
 |0,_,_,_,_,_,_,h,_=>by simp[keyOk]at h
 |n+1,N,t,v,v',w,hN,h,hv=>by
  obtain⟨N,rfl⟩:∃k,N=k+1:=⟨N-1,by omega⟩
  unfold keyOk at h
  split at h
  ·cases h
  ·rename_i len elem hu
   split at h
   ·rename_i cs z hz
    obtain⟨ca,rfl,hc⟩:=hv.agg_inv
    unfold Instr.checkKey
    simp only[Sem.run_bind,run_und w hu,Result.andThen_ok]
    rw[show(forIn [0:len] PUnit.unit _:Sem PUnit)=_ from Std.Legacy.Range.forIn_eq_forIn_range' ..]
    rw[forIn_ok]
    ·rfl
    intro i hi
    have hi':i<len:=by simp[Std.Legacy.Range.size]at hi;omega
    have hx:=List.all_eq_true.1 h i (by simp[hi'])
    split at hx
    ·rename_i x hx0
     obtain⟨x',a,b⟩:=part_sound hx0 hc w
     simp[run_size w hz,a,keyOk_sound empty n N elem x x' w (by omega) hx b]
    cases hx
   cases h
  ·rename_i fields hu
   split at h
   ·rename_i cs
    obtain⟨ca,rfl,hc⟩:=hv.agg_inv
    unfold Instr.checkKey
    simp only[Sem.run_bind,run_und w hu,Result.andThen_ok]
    rw[←Array.forIn_toList]
    rw[forIn_ok]
    ·rfl
    intro f hf
    have hx:=List.all_eq_true.1 h f hf
    by_cases hn:f.name= "_"
    ·simp[hn]
    simp only[hn,decide_false,Bool.false_or]at hx
    split at hx
    ·rename_i x hx0
     obtain⟨x',a,b⟩:=part_sound hx0 hc w
     simp[hn,a,keyOk_sound empty n N f.type x x' w (by omega) hx b]
    cases hx
   cases h
  ·rename_i d h1 h2 h3 hu
   unfold Instr.checkKey
   simp only[Sem.run_bind,run_und w hu,Result.andThen_ok]
   cases d<;>first
    |exact absurd rfl (h1 _)
    |exact absurd rfl (h2 _ _)
    |exact absurd rfl (h3 _)
    |rfl
  cases h
def FindR(ρ:Rmap):Option (Nat×Value)→Option (Nat×Value)→Prop
 |none,none=>True
 |some (i,v),some (j,v')=>i=j∧VR ρ v v'
 |_,_=>False
theorem sameNow_eq{ρ:Rmap}{t:TypeId}{d:TypeDesc}(hu:P.underlying t=some d){k k' e e':Value}(hk:VR ρ k k')(he:VR ρ e e'){b r:Bool}(h:Instr.sameNow d k' e'=some b)(h2:eqV P eqDepth t k e=some r):b=r:=by
 unfold Instr.sameNow at h
 unfold eqDepth eqV at h2
 rw[hu]at h2
 split at h
 ·rename_i kk k1 a k2 b'
  have h1:=hk.int_inv
  have h3:=he.int_inv
  subst h1;subst h3
  simp only at h2
  split at h
  ·rename_i hkk
   subst hkk
   simp at h h2
   rw[←h,←h2]
  cases h
 ·rename_i a b'
  have h1:=hk.string_inv
  have h3:=he.string_inv
  subst h1;subst h3
  simp only[Option.some.injEq]at h h2
  rw[←h,←h2,sameBytes_eq,beq_toListBytes,ByteArray.toList_eq,ByteArray.toList_eq]
 ·rename_i a b'
  have h1:k= .bool a:=by cases hk;rfl
  have h3:e= .bool b':=by cases he;rfl
  subst h1;subst h3
  simp only[Option.some.injEq]at h h2
  rw[←h,←h2]
 cases h
theorem findNow_sound{ρ:Rmap}{t:TypeId}{d:TypeDesc}(hu:P.underlying t=some d){k k':Value}(hk:VR ρ k k'):∀(es es':List MapEntry) (i:Nat) (r:Option (Nat×Value)) (q:Option (Nat×Value)),EntsR ρ es es' →
  findV P t k es i=some r→Instr.findNow d k' es' i=some q→FindR ρ r q
 | [],[],i,r,q,_,h,h'=>by simp[findV,Instr.findNow]at h h';subst h;subst h';trivial
 | [],_::_,_,_,_,he,_,_=>by simp[EntsR]at he
 |_::_,[],_,_,_,he,_,_=>by simp[EntsR]at he
 |e::es,e'::es',i,r,q,he,h,h'=>by
  have h0:=he.2 0 e e' rfl rfl
  have hr:EntsR ρ es es':=⟨by simpa using he.1,fun j a b x y=>he.2 (j+1) a b (by simpa using x) (by simpa using y)⟩
  unfold findV at h
  unfold Instr.findNow at h'
  cases hq:eqV P eqDepth t k e.key with
  |none=>rw[hq]at h;cases h
  |some b =>
   rw[hq]at h
   cases hs:Instr.sameNow d k' e'.key with
   |none=>rw[hs]at h';cases h'
   |some c =>
    rw[hs]at h'
    have:=sameNow_eq hu hk h0.1 hs hq
    subst this
    cases c with
    |true=>simp only[Option.some.injEq]at h h';subst h;subst h';exact⟨rfl,h0.2.1⟩
    |false=>exact findNow_sound hu hk es es' (i+1) r q hr h h'
theorem findAsking_sound{ρ:Rmap}{t:TypeId}{k k':Value}(hk:VR ρ k k')(w:World):∀(es es':List MapEntry) (i:Nat) (r:Option (Nat×Value)),EntsR ρ es es'→findV P t k es i=some r →
  ∃q,(Instr.findAsking t k' es' i).run P w= .ok q w∧FindR ρ r q
 | [],[],i,r,_,h=>by simp[findV]at h;subst h;exact⟨none,by simp[Instr.findAsking],trivial⟩
 | [],_::_,_,_,he,_=>by simp[EntsR]at he
 |_::_,[],_,_,he,_=>by simp[EntsR]at he
 |e::es,e'::es',i,r,he,h=>by
  have h0:=he.2 0 e e' rfl rfl
  have hr:EntsR ρ es es':=⟨by simpa using he.1,fun j a b x y=>he.2 (j+1) a b (by simpa using x) (by simpa using y)⟩
  unfold findV at h
  cases hq:eqV P eqDepth t k e.key with
  |none=>rw[hq]at h;cases h
  |some b =>
   rw[hq]at h
   have:=eqV_sound eqDepth 10000 t k e.key b k' e'.key w (by decide) hq hk h0.1
   cases b with
   |true =>
    simp only[Option.some.injEq]at h;subst h
    exact⟨some (i,e'.val),by simp[Instr.findAsking,Op.equal,Op.maxDepth,this],rfl,h0.2.1⟩
   |false =>
    obtain⟨q,a,b⟩:=findAsking_sound hk w es es' (i+1) r hr h
    exact⟨q,by simp[Instr.findAsking,Op.equal,Op.maxDepth,this,a],b⟩
theorem find_sound{ρ:Rmap}{t:TypeId}{k k':Value}(hk:VR ρ k k')(w:World){es es':List MapEntry}{r:Option (Nat×Value)}(he:EntsR ρ es es')(h:findV P t k es 0=some r){d:TypeDesc}(hu:P.underlying t=some d) :
  ∃q,(Instr.findKey t k' es').run P w= .ok q w∧FindR ρ r q:=by
 unfold Instr.findKey
 simp only[Sem.run_bind,run_und w hu,Result.andThen_ok]
 cases hn:Instr.findNow d k' es' 0 with
 |some q=>exact⟨q,rfl,findNow_sound hu hk es es' 0 r q he h hn⟩
 |none=>exact findAsking_sound hk w es es' 0 r he h
theorem keyOk_und{n:Nat}{t:TypeId}{v:Value}(h:keyOk P n t v=true):∃d,P.underlying t=some d:=by
 cases n with
 |zero=>simp[keyOk]at h
 |succ n =>
  unfold keyOk at h
  cases hu:P.underlying t with
  |none=>rw[hu]at h;cases h
  |some d=>exact⟨d,rfl⟩
theorem lookup_sound{ρ:Rmap}{S:St}{w:World}(hs:Sim P w0 ρ S w){t:TypeId}{x x' ix ix' v:Value}{ok:Bool}(h:lookupV P t x ix ok S=some v)(hx:VR ρ x x')(hi:VR ρ ix ix') :
  ∃v',(Instr.lookup t x' ix' ok).run P w= .ok v' w∧VR ρ v v':=by
 unfold lookupV at h
 split at h
 ·rename_i key elem hu
  split at h
  ·rename_i es hes
   split at h
   ·rename_i hk
    obtain⟨d,hd⟩:=keyOk_und hk
    have hmap:∃es':List MapEntry,EntsR ρ es es'∧∀(q:Option (Nat×Value)),(Instr.checkKey es'.toArray.isEmpty 10000 key ix').run P w= .ok () w→(Instr.findKey key ix' es').run P w= .ok q w →
      (Instr.lookup t x' ix' ok).run P w=((match q with
       |some (_,v)=>(pure (v,true):Sem (Value×Bool))
       |none=>do pure (←zeroValue elem,false)).run P w).andThen fun r w'=> .ok (if ok then .tuple #[r.1,.bool r.2]else r.1) w':=by
     unfold mapOf at hes
     split at hes
     ·cases hes;cases hx
      refine⟨[],⟨rfl,fun i e e' a=>by simp at a⟩,fun q h1 h2=>?_⟩
      have h1':(Instr.checkKey true 10000 key ix').run P w= .ok () w:=h1
      cases q with
      |none=>cases hz:(zeroValue elem).run P w<;>simp[Instr.lookup,run_und w hu,h1',h2,hz]
      |some y=>simp[Instr.lookup,run_und w hu,h1',h2]
     ·rename_i r
      split at hes
      ·rename_i es0 clock hB
       cases hes
       cases hx with
       |map hb =>
        rename_i L
        obtain⟨es',h1,h2⟩:=hs.blk _ _ _ hb hB
        have hg:(getObj L.r).run P w= .ok (.map es'.toArray clock) w:=by simp[getObj,Sem.run,h1]
        refine⟨es',h2,fun q h3 h4=>?_⟩
        have h3':(Instr.checkKey es'.isEmpty 10000 key ix').run P w= .ok () w:=by simpa using h3
        cases q with
        |none=>cases hz:(zeroValue elem).run P w<;>simp[Instr.lookup,run_und w hu,hg,h3',h4,hz]
        |some y=>simp[Instr.lookup,run_und w hu,hg,h3',h4]
      cases hes
     cases hes
    obtain⟨es',he,hbase⟩:=hmap
    have hck:=keyOk_sound (P:=P) (ρ:=ρ) (es'.toArray.isEmpty) 20 10000 key ix ix' w (by decide) hk hi
    have base:=fun q=>hbase q hck
    split at h
    ·rename_i i v0 hf
     cases h
     obtain⟨q,a,b⟩:=find_sound hi w he hf hd
     cases q with
     |none=>exact b.elim
     |some y =>
      obtain⟨j,v'⟩:=y
      refine⟨if ok then .tuple #[v',.bool true]else v',by rw[base _ a];simp,?_⟩
      cases ok
      ·exact b.2
      exact VR.tuple' (VRs.cons b.2 (VRs.cons (.bool true) .nil))
    ·rename_i hf
     split at h
     ·rename_i z hz
      cases h
      obtain⟨q,a,b⟩:=find_sound hi w he hf hd
      cases q with
      |some y=>exact b.elim
      |none =>
       obtain⟨_,_,_,hfl⟩:=zeroV_spec hz
       refine⟨if ok then .tuple #[z,.bool false]else z,by rw[base _ a];simp[run_zero w hz],?_⟩
       cases ok
       ·exact hfl.refl ρ
       exact VR.tuple' (VRs.cons (hfl.refl ρ) (VRs.cons (.bool false) .nil))
     cases h
    cases h
   cases h
  cases h
 cases h
theorem len_sound{ρ:Rmap}{S:St}{w:World}(hs:Sim P w0 ρ S w){t ty:TypeId}{ts:Array TypeId}{x x' v:Value}(h:lenV P t x S=some v)(hx:VR ρ x x')(ht:ts[0]?=some t) :
  (Builtin.len_ ts ty #[x']).run P w= .ok v w∧Flat v:=by
 unfold lenV at h
 split at h
 ·rename_i s hu;cases h;cases hx;exact⟨by simp[Builtin.len_,ht,run_und w hu,goInt],.int _ _⟩
 ·rename_i n e hu
  cases h
  exact⟨by cases x'<;>simp[Builtin.len_,ht,run_und w hu,goInt],.int _ _⟩
 ·rename_i arr hu
  split at h
  ·rename_i n e hu2
   cases h
   exact⟨by cases x'<;>simp[Builtin.len_,ht,run_und w hu,run_und w hu2,goInt],.int _ _⟩
  cases h
 ·rename_i e a n c hu
  cases h
  cases hx<;>exact⟨by simp[Builtin.len_,ht,run_und w hu,goInt],.int _ _⟩
 ·rename_i k e hu;cases h;cases hx;exact⟨by simp[Builtin.len_,ht,run_und w hu,goInt],.int _ _⟩
 ·rename_i k e r hu
  split at h
  ·rename_i es clock hB
   cases h
   cases hx with
   |map hb =>
    obtain⟨es',h1,h2⟩:=hs.blk _ _ _ hb hB
    exact⟨by simp[Builtin.len_,ht,run_und w hu,goInt,getObj,Sem.run,h1,h2.1],.int _ _⟩
  cases h
 cases h
end Go.Cm
namespace Go.Cm
open Go
variable{P:Program}{w0:Base}
theorem grow_room{need cap bytes:Nat}(h1:cap<need)(h2:need≤maxNeed)(h3:bytes≤1024):¬(281474976710656<Builtin.nextslicecap need cap*bytes):=by
 have h4:=nextslicecap_le h1
 have:Builtin.nextslicecap need cap*bytes≤(2*maxNeed)*1024:=Nat.mul_le_mul (by omega) h3
 unfold maxNeed at this
 omega
set_option maxHeartbeats 8000000 in
theorem real_fits_nil{ts:Array TypeId}{sT xT ty elem:TypeId}{xd:TypeDesc}{size len n cap:Nat}{x:Value}{new:List Value}{w:World}(h0:ts[0]?=some sT)(h1:ts[1]?=some xT)(hu:P.underlying sT=some (.slice elem))
  (hx:P.underlying xT=some xd)(hxi:isIntT xd=false)(hsz:szOf P elem=some size)(hlen:(Builtin.lenOf x).run P w= .ok n w)(hnew:(Builtin.firstCells size n x).run P w= .ok new.toArray w)(hfit:len+n≤cap) :
  (Builtin.append_ ts ty #[.slice none len cap,x]).run P w= .ok (.slice none (len+n) cap) w:=by
 cases xd<;>first
  |(simp[isIntT]at hxi;done)
  |simp[Builtin.append_,h0,h1,run_und w hu,run_und w hx,run_size w hsz,hlen,hnew,hfit]
set_option maxHeartbeats 8000000 in
theorem real_fits{ts:Array TypeId}{sT xT ty elem:TypeId}{xd:TypeDesc}{size len n cap:Nat}{a:Addr}{x:Value}{new:List Value}{w w':World}(h0:ts[0]?=some sT)(h1:ts[1]?=some xT)(hu:P.underlying sT=some (.slice elem))
  (hx:P.underlying xT=some xd)(hxi:isIntT xd=false)(hsz:szOf P elem=some size)(hlen:(Builtin.lenOf x).run P w= .ok n w)(hnew:(Builtin.firstCells size n x).run P w= .ok new.toArray w)(hfit:len+n≤cap)
  (hst:(storeCells (a.add (len*size)) new).run P w= .ok () w'):(Builtin.append_ ts ty #[.slice (some a) len cap,x]).run P w= .ok (.slice (some a) (len+n) cap) w':=by
 cases xd<;>first
  |(simp[isIntT]at hxi;done)
  |simp[Builtin.append_,h0,h1,run_und w hu,run_und w hx,run_size w hsz,hlen,hnew,hfit,hst]
set_option maxHeartbeats 8000000 in
theorem real_grows{ts:Array TypeId}{sT xT ty elem:TypeId}{xd:TypeDesc}{size len n cap:Nat}{base:Option Addr}{x:Value}{old new:List Value}{w:World}(h0:ts[0]?=some sT)(h1:ts[1]?=some xT)(hu:P.underlying sT=some (.slice elem))
  (hx:P.underlying xT=some xd)(hxi:isIntT xd=false)(hsz:szOf P elem=some size)(hlen:(Builtin.lenOf x).run P w= .ok n w)(hold:(Builtin.firstCells size len (.slice base len cap)).run P w.drew= .ok old.toArray w.drew)
  (hnew:(Builtin.firstCells size n x).run P w.drew= .ok new.toArray w.drew)(hfit:¬(len+n≤cap)){i:TypeInfo}{z:Value}(hi:P.info? elem=some i)(hz:zeroV P elem=some z)(hb:i.bytes≤1024)(hb0:0<i.bytes)(hm:len+n≤maxNeed) :
  ∃cap',len+n≤cap'∧(Builtin.append_ ts ty #[.slice base len cap,x]).run P w= .ok (.slice (some ⟨w.heap.size,0,none⟩) (len+n) cap') (w.drew.alloc (.cells (old.toArray++new.toArray++Builtin.zeroCells z.cells (cap'-(len+n))) elem)):=by
 have g1:=grow_room (bytes:=i.bytes) (show cap<len+n by omega) hm hb
 have g2:¬(9223372036854775807<((len:Int)+(n:Int))):=by unfold maxNeed at hm;omega
 have g3:i.bytes≠0:=by omega
 refine⟨(Question.appendCap (len+n) cap elem).cut (w.tape w.drawn (.appendCap (len+n) cap elem)),by simp[Question.cut],?_⟩
 have hz':=run_zero w.drew hz
 cases xd<;>first
  |(simp[isIntT]at hxi;done)
  |(simp[Builtin.append_,h0,h1,run_und w hu,run_und w hx,run_size w hsz,hlen,hnew,hold,hfit,run_info w hi,run_info w.drew hi,g1,g2,Question.forced,hz',newRow];congr 2;apply Array.ext';simp[List.append_assoc])
end Go.Cm
namespace Go.Cm
open Go
variable{P:Program}{w0:Base}
theorem new_row{ρ:Rmap}{S:St}{w:World}(hs:Sim P w0 ρ S w){c:List Value}{arr:Array Value}(hc:∀(i:Nat) v,c[i]?=some v→∃v',arr[i]?=some v'∧VR ρ v v'){e e':TypeId}(he:e≠0→e'=e){z:Nat}(hz:szOf P e=some z)
  {n k k':Nat}(hn:n≤k)(hk:k≤k')(hr:z≠0→k'*z≤arr.size) :
  ∃ρ',Ext ρ ρ'∧Sim P w0 ρ' (newSlice S c e n k).2 (w.alloc (.cells arr e'))∧VR ρ' (newSlice S c e n k).1 (.slice (some ⟨w.heap.size,0,none⟩) n k'):=by
 obtain⟨h1,h2⟩:=new_cells (P:=P) (e:=e) (e':=e') (row:=true) (kin:=[]) (z:=z) (arr:=arr) hs hc (fun _=>hz) (by simp) he
 refine⟨_,h1,h2,?_⟩
 exact VR.slice (L:=⟨w.heap.size,0,arr.size,z⟩) (upd_same _ _ _) hn hk (fun hne=>by simpa using hr hne) (.inl rfl)
theorem replL_get{z:List Value}:∀(n:Nat) (i:Nat),i<n*z.length→(replL n z)[i]?=z[i%z.length]?
 |0,i,h=>by simp at h
 |n+1,i,h=>by
  have h2:i<n*z.length+z.length:=by rw[Nat.succ_mul]at h;exact h
  unfold replL
  by_cases hi:i<z.length
  ·rw[List.getElem?_append_left hi,Nat.mod_eq_of_lt hi]
  rw[List.getElem?_append_right (by omega),replL_get n _ (by omega)]
  congr 1
  exact(Nat.mod_eq_sub_mod (by omega)).symm
theorem replL_length{z:List Value}:∀(n:Nat),(replL n z).length=n*z.length
 |0=>by simp[replL]
 |n+1=>by simp[replL,replL_length n,Nat.add_mul];omega
theorem zeros_get{z:Array Value}{n i:Nat}(h:i<n)(hz:0<z.size):((Array.range n).map (fun i=>z[i%z.size]!))[i]?=z[i%z.size]?:=by
 have hm:i%z.size<z.size:=Nat.mod_lt _ hz
 simp[h,getElem!_pos z (i%z.size) hm,Array.getElem?_eq_getElem hm]
theorem zeros_vr{ρ:Rmap}{t:TypeId}{z:Value}(hz:zeroV P t=some z)(n m:Nat)(hm:m=n*z.cells.size):VRs ρ (replL n (cellsL z)) (((Array.range m).map (fun i=>z.cells[i%z.cells.size]!)).toList):=by
 obtain⟨_,_,_,hf⟩:=zeroV_spec hz
 have hv:=(hf.refl ρ).cells
 have hlen:(cellsL z).length=z.cells.size:=by rw[cellsL_eq];simp
 refine⟨by rw[replL_length,hlen];simp[hm],fun i v v' h h'=>?_⟩
 have hi:i<n*(cellsL z).length:=by
  have:=(List.getElem?_eq_some_iff.1 h).1
  rwa [replL_length]at this
 have hpos:0<z.cells.size:=by
  rcases Nat.eq_zero_or_pos z.cells.size with e|e
  ·rw[hlen,e]at hi;simp at hi
  exact e
 rw[replL_get n i hi]at h
 rw[Array.getElem?_toList,zeros_get (by rw[hm,←hlen];exact hi) hpos,←Array.getElem?_toList,←cellsL_eq,←hlen]at h'
 exact hv.2 _ _ _ h h'
def OpGood(P:Program)(w0:Base)(ρ:Rmap)(v:Value)(S':St)(r:Result Value):Prop :=
 ∃ρ' v' w',r= .ok v' w'∧Ext ρ ρ'∧VR ρ' v v'∧Sim P w0 ρ' S' w'
theorem alloc_sound{ρ:Rmap}{S:St}{w:World}(hs:Sim P w0 ρ S w){e:TypeId}{z:List Value}(h:zeroOf P e=some z):OpGood P w0 ρ (newCells S z e false).1 (newCells S z e false).2 ((Instr.alloc e true (.tuple #[])).run P w):=by
 obtain⟨zv,hz,rfl,hf⟩:=zeroOf_spec h
 obtain⟨ρ',w',a,b,c,d⟩:=new_var hs (hf.refl ρ) e
 exact⟨ρ',_,w',by simp[Instr.alloc,run_zero w hz,a],b,d,c⟩
theorem box_sound{ρ:Rmap}{S:St}{w:World}(hs:Sim P w0 ρ S w){e:TypeId}{v v':Value}(hv:VR ρ v v'):OpGood P w0 ρ (newCells S (cellsL v) e false).1 (newCells S (cellsL v) e false).2 ((Instr.box e v').run P w):=by
 obtain⟨ρ',w',a,b,c,d⟩:=new_var hs hv e
 exact⟨ρ',_,w',by simp[Instr.box,a],b,d,c⟩
theorem newMap_sound{ρ:Rmap}{S:St}{w:World}(hs:Sim P w0 ρ S w) :
  ∃ρ',Ext ρ ρ'∧VR ρ' (.map (some S.size)) (.map (some w.heap.size))∧Sim P w0 ρ' ⟨S.heap.set S.size (some (.map [] 0)),S.size+1⟩ (w.alloc (.map #[] 0)):=by
 obtain⟨a,b⟩:=hs.add (B:= .map [] 0) (o:= .map #[] 0) (L:=⟨w.heap.size,0,0,0⟩) rfl ⟨[],rfl,rfl,fun i e e' h=>by simp at h⟩
 exact⟨_,a,VR.map (L:=⟨w.heap.size,0,0,0⟩) (upd_same _ _ _),b⟩
theorem fillL_length{place:Nat→Option (Nat×Nat)}:∀(parts:List (Nat×Value)) (c c1:List Value),fillL place c parts=some c1→c1.length=c.length
 | [],c,c1,h=>by simp[fillL]at h;rw[h]
 |(i,v)::r,c,c1,h=>by
  unfold fillL at h
  split at h
  ·cases h
  rename_i off size hpl
  cases hg:(Nat.beq (cellsL v).length size&&Nat.ble (off+size) c.length)with
  |false=>rw[hg]at h;cases h
  |true =>
   rw[hg]at h
   simp only[cond_true]at h
   split at h
   ·rename_i c2 hc2
    rw[fillL_length r c2 c1 h,(setN_spec _ _ _ _ hc2).1]
   cases h
theorem buildSlice_sound{ρ:Rmap}{S S':St}{w:World}(hs:Sim P w0 ρ S w){t:TypeId}{len:Nat}{parts:Array (Nat×Operand)}{f g:Operand→Value}{v:Value}(h:newOp P f (.buildSlice t len parts) S=some (v,S'))
  (hp:PartsR ρ (partsV f parts.toList) (parts.map fun(i,x)=>(i,g x)).toList):OpGood P w0 ρ v S' ((Instr.buildSlice t len (parts.map fun(i,x)=>(i,g x))).run P w):=by
 simp only[newOp]at h
 split at h
 ·rename_i elem hu
  split at h
  ·rename_i ei hei
   split at h
   ·rename_i z hz
    split at h
    ·rename_i hle
     split at h
     ·rename_i c hc
      cases h
      have hsz:szOf P elem=some ei.size:=by simp[szOf,hei]
      have hz1:z.cells.size=ei.size:=by have:=hle.2;rw[cellsL_eq]at this;simpa using this
      have hzv:=zeros_vr (ρ:=ρ) hz len (len*ei.size) (by rw[hz1])
      obtain⟨c',f1,f2⟩:=fill_sound (place':=fun i=>some (i*ei.size,ei.size)) (fun _=>rfl) _ _ _ _ _ hc hzv hp
      have hclen:c.length=len*ei.size:=by
       have:=fillL_length _ _ _ hc
       rw[this,replL_length,hle.2]
      have hcs:c'.size=len*ei.size:=by rw[←hclen,f2.1];simp
      obtain⟨ρ',a1,a2,a3⟩:=new_row hs (c:=c) (arr:=c') (fun i x hx=>by obtain⟨x',p1,p2⟩:=f2.get hx;exact⟨x',by rw[←Array.getElem?_toList];exact p1,p2⟩) (e:=elem) (e':=elem) (fun _=>rfl) hsz
       (n:=len) (k:=len) (k':=len) (Nat.le_refl _) (Nat.le_refl _) (fun _=>by rw[hcs];exact Nat.le_refl _)
      refine⟨ρ',_,_,?_,a1,a3,a2⟩
      unfold Instr.buildSlice
      simp only[Sem.run_bind,run_und w hu,Result.andThen_ok,run_size w hsz]
      rw[if_neg (by omega)]
      by_cases h0:len*ei.size=0
      ·rw[if_pos h0]
       have e1:Array.map (fun x=>(#[]:Array Value)[x%(#[]:Array Value).size]!) (Array.range (len*ei.size))=Array.map (fun i=>z.cells[i%z.cells.size]!) (Array.range (len*ei.size)):=by rw[h0];simp
       simp only[Sem.run_bind,Sem.run_pure,Result.andThen_ok]
       rw[e1,f1]
       simp[newRow]
      rw[if_neg h0]
      simp only[Sem.run_bind,run_zero w hz,Sem.run_pure,Result.andThen_ok]
      rw[f1]
      simp[newRow]
     cases h
    cases h
   cases h
  cases h
 cases h
theorem source_sound{ρ:Rmap}{S:St}{w:World}(hs:Sim P w0 ρ S w){size n:Nat}{x x':Value}{l:List Value}(h:sourceCells S size n x=some l)(hx:VR ρ x x')(hn:∀k,lenOfV x=some k→n≤k) :
  ∃l':List Value,(Builtin.firstCells size n x').run P w= .ok l'.toArray w∧VRs ρ l l':=by
 unfold sourceCells at h
 split at h
 ·cases hb:Nat.beq n 0 with
  |false=>rw[hb]at h;cases h
  |true =>
   rw[hb]at h;cases h;cases hx
   exact⟨[],by simp[Builtin.firstCells],VRs.nil⟩
 ·rename_i b o len cap
  unfold readCells at h
  split at h
  ·rename_i c e row own kin hB
   cases hx with
   |slice hb hnc hc hr ho =>
    rename_i o' c' L
    obtain⟨arr,e',fz,h1,h2,h3,h4,h5,h6⟩:=hs.blk _ _ _ hb hB
    have hn':=hn len rfl
    rcases ho with ho|ho
    ·subst ho
     obtain⟨l',a1,a2⟩:=loadCells_sound (P:=P) h1 h3 h
     exact⟨l',by simp[Builtin.firstCells,a1],a2⟩
    have:n=0:=by omega
    subst this
    simp[takeN]at h
    subst h
    exact⟨[],by simp[Builtin.firstCells,loadCells,loadCellsFrom],VRs.nil⟩
  cases h
 ·cases hb:Nat.beq n 0 with
  |false=>rw[hb]at h;cases h
  |true =>
   rw[hb]at h
   simp only[cond_true,Option.some.injEq]at h
   subst h
   have:=of_nbeq hb
   subst this
   cases hx
   exact⟨[],by simp[Builtin.firstCells,loadCells,loadCellsFrom],VRs.nil⟩
 ·rename_i s
  cases hx
  cases hz:Nat.beq size 1 with
  |false=>rw[hz]at h;cases h
  |true =>
  rw[hz]at h
  simp only[cond_true]at h
  obtain⟨h1,h2,h3⟩:=takeN_spec _ _ _ h
  have hn':=hn _ rfl
  refine⟨l,?_,?_⟩
  ·simp only[Builtin.firstCells,Sem.run_pure]
   congr 1
   rw[h3]
   apply Array.ext'
   simp[ByteArray.data_extract,List.extract]
  rw[h3,←List.map_take]
  exact VRs.map _ _ (fun x=> .int _ _) _
 cases h
theorem lenOf_sound{ρ:Rmap}{x x':Value}{n:Nat}(h:lenOfV x=some n)(hx:VR ρ x x')(w:World):(Builtin.lenOf x').run P w= .ok n w:=by
 unfold lenOfV at h
 split at h
 ·cases h;cases hx<;>simp[Builtin.lenOf]
 ·cases h;cases hx;simp[Builtin.lenOf]
 cases h
theorem old_cells{ρ:Rmap}{S:St}{w:World}(hs:Sim P w0 ρ S w){b o len size:Nat}{L:Loc}(hb:ρ b=some L){c:List Value}{e:TypeId}{row own:Bool}{kin:List Nat}(hB:S.get b=some (.cells c e row own kin))
  {old:List Value}(h:takeN (len*size) (dropN o c)=some old)(o' n cap:Nat)(ho:o'=o+L.d∨len=0) :
  ∃l':List Value,(Builtin.firstCells size len (.slice (some ⟨L.r,o',none⟩) n cap)).run P w= .ok l'.toArray w∧VRs ρ old l':=by
 obtain⟨arr,e',fz,h1,h2,h3,h4,h5,h6⟩:=hs.blk _ _ _ hb hB
 rcases ho with ho|ho
 ·subst ho
  obtain⟨l',a1,a2⟩:=loadCells_sound (P:=P) h1 h3 h
  exact⟨l',by simp[Builtin.firstCells,a1],a2⟩
 subst ho
 simp[takeN]at h
 subst h
 exact⟨[],by simp[Builtin.firstCells,loadCells,loadCellsFrom],VRs.nil⟩
theorem grown_sound{ρ:Rmap}{S:St}{w:World}(hs:Sim P w0 ρ S w){b:Nat}{L:Loc}(hb:ρ b=some L){c:List Value}{e:TypeId}{kin:List Nat}(hB:S.get b=some (.cells c e true true kin)) :
  Sim P w0 ρ (S.set b (.cells c e true false kin)) w:=by
 have hget:∀j,(S.set b (.cells c e true false kin)).get j=if j=b then some (.cells c e true false kin)else S.get j:=fun j=>get_set' _ _ _ _
 refine⟨hs.size,hs.old,hs.os,hs.out,hs.dom,fun x M C hx hC=>?_,fun x M C hx hC hm=>?_,hs.glob,hs.no⟩
 ·rw[hget]at hC
  by_cases hxb:x=b
  ·subst hxb
   rw[if_pos rfl]at hC
   cases hC
   obtain⟨arr,e',fz,h1,h2,h3,h4,h5,h6⟩:=hs.blk _ _ _ hx hB
   exact⟨arr,e',fz,h1,h2,h3,(by simp),h5,h6.1,fun h=>h.elim (fun e=>by cases e) (fun e=>by cases e)⟩
  rw[if_neg hxb]at hC
  exact hs.blk x M C hx hC
 rw[hget]at hC
 by_cases hxb:x=b
 ·subst hxb
  rw[if_pos rfl]at hC
  cases hC
  simp[Blk.mine]at hm
 rw[if_neg hxb]at hC
 refine⟨(hs.own x M C hx hC hm).1,fun y L' B' hy hr hB' hne=>?_⟩
 rw[hget]at hB'
 by_cases hyb:y=b
 ·subst hyb
  rw[if_pos rfl]at hB'
  cases hB'
  have h:=(hs.own x M C hx hC hm).2 y L' _ hy hr hB hne
  exact absurd h.2.1 (by simp[Blk.mine])
 rw[if_neg hyb]at hB'
 exact(hs.own x M C hx hC hm).2 y L' B' hy hr hB' hne
theorem inplace_sound{ρ:Rmap}{S:St}{w w':World}(hs:Sim P w0 ρ S w){b o:Nat}{L:Loc}(hb:ρ b=some L){c old new:List Value}{e:TypeId}{kin:List Nat}(hB:S.get b=some (.cells c e true true kin))(hoe:o+old.length=c.length)
  (hold:∀(i:Nat) v,old[i]?=some v→c[o+i]?=some v){arr':Array Value}{e':TypeId}{fz:Nat×Nat}(hput:WPut L.r (.cells arr' e' fz) w w'){arr:Array Value}(h1:w.heap[L.r]?=some (.cells arr e' fz))(hsz:arr'.size=arr.size)
  {new':List Value}(hnew:VRs ρ new new')(hget:∀j,arr'[j]?=if c.length+L.d≤j∧j<c.length+L.d+new'.length then new'[j-(c.length+L.d)]? else arr[j]?) :
  Ext ρ (upd ρ S.size ⟨L.r,L.d+o,L.tot,L.z⟩) ∧
   Sim P w0 (upd ρ S.size ⟨L.r,L.d+o,L.tot,L.z⟩) ⟨(S.set b (.cells c e true false kin)).heap.set S.size (some (.cells (old++new) e true true (b::kin))),S.size+1⟩ w':=by
 have hnone:ρ S.size=none:=by
  cases hx:ρ S.size with
  |none=>rfl
  |some M=>exact absurd (hs.dom _ _ hx).1 (Nat.lt_irrefl _)
 have hext:=ext_upd (⟨L.r,L.d+o,L.tot,L.z⟩:Loc) hnone
 have hbS:=(hs.dom b L hb).1
 have hown:=hs.own b L _ hb hB rfl
 obtain⟨arr0,e0,fz0,g1,g2,g3,g4,g5,g6⟩:=hs.blk _ _ _ hb hB
 rw[h1]at g1
 cases g1
 have hget2:∀x C,(⟨(S.set b (.cells c e true false kin)).heap.set S.size (some (.cells (old++new) e true true (b::kin))),S.size+1⟩:St).get x=some C →
   (x=S.size∧C= .cells (old++new) e true true (b::kin))∨(x≠S.size∧x=b∧C= .cells c e true false kin)∨(x≠S.size∧x≠b∧S.get x=some C):=by
  intro x C hC
  simp only[St.get,St.set,Heap.get_set_any]at hC
  by_cases hx:x=S.size
  ·left
   refine⟨hx,?_⟩
   rw[if_pos hx]at hC;exact(Option.some.inj hC).symm
  right
  rw[if_neg hx]at hC
  by_cases hxb:x=b
  ·left
   rw[if_pos hxb]at hC
   exact⟨hx,hxb,(Option.some.inj hC).symm⟩
  right
  rw[if_neg hxb]at hC
  exact⟨hx,hxb,hC⟩
 have hnl:new.length=new'.length:=hnew.1
 -- what a block that lies in this memory reads as
 have keep:∀(i:Nat),i<c.length+L.d→arr'[i]?=arr[i]?:=fun i hi=>by rw[hget,if_neg (by omega)]
 have keepBlk:∀x M C,ρ x=some M→(C.ext+M.d≤c.length+L.d∨M.r≠L.r)→BlkOk P ρ C w.heap[M.r]? M→(∀c' e' r' o' k',C= .cells c' e' r' o' k'→M.r=L.r→o'=false)→(M.r=L.r→∃c' e' r' o' k',C= .cells c' e' r' o' k')→BlkOk P ρ C w'.heap[M.r]? M:=by
  intro x M C hx hor hC hro hcells
  by_cases hr:M.r=L.r
  ·obtain⟨c',e1,r',o',k',rfl⟩:=hcells hr
   have ho':=hro _ _ _ _ _ rfl hr
   subst ho'
   obtain⟨a1,a2,a3,b1,b2,b3,b4,b5,b6⟩:=hC
   rw[hr,h1]at b1
   cases b1
   have hle:c'.length+M.d≤c.length+L.d:=by
    rcases hor with h|h
    ·exact h
    exact absurd hr h
   refine⟨arr',e',fz,by rw[hr];exact hput.now,by rw[hsz];exact b2,fun i v hv=>?_,(by simp),b5,b6⟩
   obtain⟨v',p1,p2⟩:=b3 i v hv
   have hi:=(List.getElem?_eq_some_iff.1 hv).1
   exact⟨v',by rw[keep _ (by omega)];exact p1,p2⟩
  rw[hput.same _ hr];exact hC
 refine⟨hext,⟨by rw[hput.size];exact hs.size,fun i hi=>?_,hput.os.trans hs.os,hput.out.trans hs.out,fun x M hx=>?_,fun x M C hx hC=>?_,fun x M C hx hC hm=>?_,fun g hg=>let⟨M,a,b⟩:=hs.glob g hg;⟨M,hext _ _ a,b⟩,fun x hx=>?_⟩⟩
 ·rw[hput.same i (by have:=hown.1;omega)];exact hs.old i hi
 ·rw[hput.size]
  show x<S.size+1∧_
  unfold upd at hx
  split at hx
  ·cases hx;exact⟨by omega,(hs.dom b L hb).2⟩
  have:=hs.dom x M hx;omega
 ·rcases hget2 x C hC with ⟨rfl,rfl⟩|⟨hne,rfl,rfl⟩|⟨hne,hnb,hC'⟩
  ·have hM:M=⟨L.r,L.d+o,L.tot,L.z⟩:=by rw[upd_same]at hx;exact(Option.some.inj hx).symm
   subst hM
   refine⟨arr',e',fz,hput.now,by rw[hsz];exact g2,fun i v hv=>?_,g4,g5,(fun h=>nomatch h),g6.2⟩
   by_cases hi:i<old.length
   ·rw[List.getElem?_append_left hi]at hv
    obtain⟨v',p1,p2⟩:=g3 _ _ (hold i v hv)
    refine⟨v',?_,p2.mono hext⟩
    show arr'[L.d+o+i]?=some v'
    rw[keep _ (by omega),show L.d+o+i=L.d+(o+i) by omega]
    exact p1
   rw[List.getElem?_append_right (by omega)]at hv
   obtain⟨v',p1,p2⟩:=hnew.get hv
   have hi2:=(List.getElem?_eq_some_iff.1 hv).1
   refine⟨v',?_,p2.mono hext⟩
   show arr'[L.d+o+i]?=some v'
   rw[hget,if_pos (by omega),show L.d+o+i-(c.length+L.d)=i-old.length by omega]
   exact p1
  ·have hM:ρ x=some M:=by unfold upd at hx;rw[if_neg hne]at hx;exact hx
   rw[hb]at hM;cases hM
   refine(keepBlk x L (.cells c e true false kin) hb (.inl (by simp[Blk.ext])) ⟨arr,e',fz,h1,g2,g3,(by simp),g5,g6.1,fun h=>h.elim (fun e=>by cases e) (fun e=>by cases e)⟩ (fun c' e1 r' o' k' h _=>by cases h;rfl) (fun _=>⟨c,e,true,false,kin,rfl⟩)).mono hext
  have hM:ρ x=some M:=by unfold upd at hx;rw[if_neg hne]at hx;exact hx
  have hCw:=hs.blk x M C hM hC'
  by_cases hr:M.r=L.r
  ·have hk:=hown.2 x M C hM hr hC' hnb
   have hcells:∃c' e1 r' o' k',C= .cells c' e1 r' o' k':=by
    cases C with
    |cells c' e1 r' o' k'=>exact⟨_,_,_,_,_,rfl⟩
    |map _ _=>obtain⟨_,q,_⟩:=hCw;rw[hr,h1]at q;cases q
    |iter _ _=>have q:w.heap[M.r]?=_:=hCw;rw[hr,h1]at q;cases q
    |loop _ _ _ _ _ _ _ _=>obtain⟨_,_,_,q,_⟩:=hCw;rw[hr,h1]at q;cases q
    |defs _=>have q:w.heap[M.r]?=_:=hCw;rw[hr,h1]at q;cases q
    |mapIt _=>obtain⟨_,_,_,_,_,q⟩:=hCw;rw[hr,h1]at q;cases q
   refine(keepBlk x M C hM (.inl hk.2.2) hCw (fun c' e1 r' o' k' h _=>?_) (fun _=>hcells)).mono hext
   subst h
   exact hk.2.1
  exact(keepBlk x M C hM (.inr hr) hCw (fun _ _ _ _ _ _ h=>absurd h hr) (fun h=>absurd h hr)).mono hext
 ·rcases hget2 x C hC with ⟨rfl,rfl⟩|⟨hne,rfl,rfl⟩|⟨hne,hnb,hC'⟩
  ·have hM:M=⟨L.r,L.d+o,L.tot,L.z⟩:=by rw[upd_same]at hx;exact(Option.some.inj hx).symm
   subst hM
   refine⟨hown.1,fun y L' B' hy hr hB' hyn=>?_⟩
   have hy':ρ y=some L':=by unfold upd at hy;rw[if_neg hyn]at hy;exact hy
   rcases hget2 y B' hB' with ⟨e1,_⟩|⟨_,rfl,rfl⟩|⟨_,hyb,hB0⟩
   ·exact absurd e1 hyn
   ·rw[hb]at hy';cases hy'
    refine⟨by simp[Blk.kin],rfl,?_⟩
    simp only[Blk.ext,List.length_append]
    omega
   have hk:=hown.2 y L' B' hy' hr hB0 hyb
   refine⟨by simp only[Blk.kin,List.mem_cons];exact .inr hk.1,hk.2.1,?_⟩
   have:=hk.2.2
   simp only[Blk.ext,List.length_append]at this ⊢
   omega
  ·simp[Blk.mine]at hm
  have hM:ρ x=some M:=by unfold upd at hx;rw[if_neg hne]at hx;exact hx
  have hold':=hs.own x M C hM hC' hm
  have hrne:M.r≠L.r:=by
   intro hr
   have:=(hown.2 x M C hM hr hC' hnb).2.1
   rw[hm]at this
   cases this
  refine⟨hold'.1,fun y L' B' hy hr hB' hyn=>?_⟩
  rcases hget2 y B' hB' with ⟨rfl,_⟩|⟨hyS,rfl,_⟩|⟨hyS,hyb,hB0⟩
  ·rw[upd_same]at hy;cases hy
   exact absurd hr.symm hrne
  ·have hy':ρ y=some L':=by unfold upd at hy;rw[if_neg hyS]at hy;exact hy
   rw[hb]at hy';cases hy'
   exact absurd hr.symm hrne
  have hy':ρ y=some L':=by unfold upd at hy;rw[if_neg hyS]at hy;exact hy
  exact hold'.2 y L' B' hy' hr hB0 hyn
 have:=hs.no x hx
 refine⟨?_,by show x<S.size+1;omega⟩
 unfold upd
 rw[if_neg (by omega)]
 exact this.1
end Go.Cm
namespace Go.Cm
open Go
variable{P:Program}{w0:Base}
theorem size_zeroCells(z:Array Value)(n:Nat):(Builtin.zeroCells z n).size=n*z.size:=by simp[Builtin.zeroCells]
theorem source_len{S:St}{size n:Nat}{x:Value}{l:List Value}(h:sourceCells S size n x=some l):l.length=n*size:=by
 unfold sourceCells at h
 split at h
 ·cases hz:Nat.beq n 0 with
  |false=>rw[hz]at h;cases h
  |true=>rw[hz]at h;cases h;have:=of_nbeq hz;subst this;simp
 ·unfold readCells at h
  split at h
  ·exact(takeN_spec _ _ _ h).1
  cases h
 ·cases hz:Nat.beq n 0 with
  |false=>rw[hz]at h;cases h
  |true=>rw[hz]at h;cases h;have:=of_nbeq hz;subst this;simp
 ·cases hz:Nat.beq size 1 with
  |false=>rw[hz]at h;cases h
  |true =>
   rw[hz]at h
   have:=of_nbeq hz;subst this
   rw[(takeN_spec _ _ _ h).1];simp
 cases h
theorem growOk_spec{elem:TypeId}{size need:Nat}(h:growOk P elem size need=true):∃ei z,P.info? elem=some ei∧zeroV P elem=some z∧ei.bytes≤1024∧0<ei.bytes∧need≤maxNeed∧z.cells.size=size∧0<size:=by
 unfold growOk at h
 split at h
 ·rename_i ei z hei hz
  simp only[Bool.and_eq_true]at h
  obtain⟨⟨⟨⟨a,b⟩,c⟩,d⟩,e⟩:=h
  refine⟨ei,z,hei,hz,Nat.le_of_ble_eq_true a,nblt_tt b,Nat.le_of_ble_eq_true c,?_,nblt_tt e⟩
  have:=of_nbeq d
  rw[cellsL_eq]at this
  simpa using this
 cases h
theorem take_get{α:Type}{n o:Nat}{c l:List α}(h:takeN n (dropN o c)=some l):∀(i:Nat) v,l[i]?=some v→c[o+i]?=some v:=by
 obtain⟨h1,h2,h3⟩:=takeN_spec _ _ _ h
 intro i v hv
 have hi:i<n:=by rw[←h1];exact(List.getElem?_eq_some_iff.1 hv).1
 rw[h3,List.getElem?_take,if_pos hi,dropN_eq,List.getElem?_drop]at hv
 exact hv
theorem extend_sound{ρ:Rmap}{S S':St}{w:World}(hs:Sim P w0 ρ S w){b o size:Nat}{L:Loc}(hb:ρ b=some L){vs vs':List Value}(h:extendCells P S b o size vs=some S')(hv:VRs ρ vs vs')
  (htot:L.z=size→size≠0→o+L.d+vs.length≤L.tot):∃w',(storeCells ⟨L.r,o+L.d,none⟩ vs').run P w= .ok () w'∧Sim P w0 ρ S' w':=by
 unfold extendCells at h
 split at h
 ·rename_i c e kin hB
  split at h
  ·rename_i z hz
   cases hg:(vs.all cellV&&Nat.blt 0 vs.length&&Nat.beq o c.length&&Nat.beq z size&&Nat.blt 0 z)with
   |false=>rw[hg]at h;cases h
   |true =>
    rw[hg]at h
    cases h
    simp only[Bool.and_eq_true]at hg
    obtain⟨⟨⟨⟨g1,g2⟩,g3⟩,g4⟩,g5⟩:=hg
    have g3:=of_nbeq g3
    have g4:=of_nbeq g4
    have g5:=nblt_tt g5
    subst g4
    obtain⟨arr,e',fz,h1,h2,h3,h4,h5⟩:=hs.blk b L _ hb hB
    have hLz:L.z=z:=by
     have:=h5.1 rfl
     rw[hz]at this
     exact(Option.some.inj this).symm
    have ht:=htot hLz (by omega)
    have hone:∀v,v∈vs'→v.oneCell'=true:=by
     intro v hvm
     obtain⟨i,hi⟩:=List.getElem?_of_mem hvm
     have hil:i<vs.length:=by rw[hv.1];exact(List.getElem?_eq_some_iff.1 hi).1
     have hvi:=List.getElem?_eq_getElem hil
     have hr:=hv.2 i _ _ hvi hi
     rw[hr.oneCell,←cellV_eq]
     exact List.all_eq_true.1 g1 _ (List.getElem_mem hil)
    obtain⟨arr',w',a1,a2,a3,a4⟩:=run_storeCells (P:=P) vs' w arr (o+L.d) 0 h1 (by rw[←hv.1];omega) (fun j hj=>h4 rfl j (by omega)) hone
    refine⟨w',a1,?_⟩
    refine hs.put (B:= .cells c e true true kin) (B':= .cells (c++vs) e true true []) hb hB rfl a2 ⟨arr',e',fz,rfl,by omega,fun i v hiv=>?_,h4,h5.1,(fun hr=>nomatch hr),h5.2.2⟩
    rw[a4]
    by_cases hin:i<c.length
    ·rw[List.getElem?_append_left hin]at hiv
     rw[if_neg (by omega)]
     exact h3 i v hiv
    rw[List.getElem?_append_right (by omega)]at hiv
    obtain⟨v',x1,x2⟩:=hv.get hiv
    have hi:=(List.getElem?_eq_some_iff.1 x1).1
    rw[if_pos (by omega)]
    exact⟨v',by rw[show L.d+i-(o+L.d+0)=i-c.length by omega];exact x1,x2⟩
  cases h
 cases h
theorem append_sound{ρ:Rmap}{S S':St}{w:World}(hs:Sim P w0 ρ S w){ts:Array TypeId}{ty:TypeId}{s s' x x' v:Value}(h:appendV P ts.toList s x S=some (v,S'))(hsv:VR ρ s s')(hx:VR ρ x x') :
  OpGood P w0 ρ v S' ((Builtin.append_ ts ty #[s',x']).run P w):=by
 unfold appendV at h
 split at h
 case h_2=>cases h
 rename_i sT xT rest hts
 have h0:ts[0]?=some sT:=by rw[←Array.getElem?_toList,hts];rfl
 have h1:ts[1]?=some xT:=by rw[←Array.getElem?_toList,hts];rfl
 split at h
 case h_2=>cases h
 rename_i elem base len cap n xd hu hlen hxd
 cases hxi:isIntT xd with
 |true=>rw[hxi]at h;cases h
 |false =>
  rw[hxi]at h
  simp only[cond_false]at h
  split at h
  case h_2=>cases h
  rename_i size hsz
  split at h
  case h_2=>cases h
  rename_i new hnew
  have hl:=lenOf_sound (P:=P) hlen hx w
  obtain⟨new',hn1,hn2⟩:=source_sound hs hnew hx (fun k hk=>by rw[hlen]at hk;cases hk;exact Nat.le_refl _)
  obtain⟨new2,hn3,hn4⟩:=source_sound hs.drew hnew hx (fun k hk=>by rw[hlen]at hk;cases hk;exact Nat.le_refl _)
  unfold append2 at h
  cases hfit:Nat.ble (len+n) cap with
  |true =>
   rw[hfit]at h
   simp only[cond_true]at h
   have hle:=Nat.le_of_ble_eq_true hfit
   unfold appendIn at h
   split at h
   ·cases h
    cases hsv
    exact⟨ρ,_,w,real_fits_nil h0 h1 hu hxd hxi hsz hl hn1 hle,Ext.refl _,(by obtain rfl:n=0:=(by omega);exact .snil),hs⟩
   ·rename_i b o
    cases hsv with
    |slice hb hnc hc hr ho =>
     rename_i o' c' L
     cases hz:Nat.beq new.length 0 with
     |true =>
      rw[hz]at h
      simp only[cond_true,Option.some.injEq,Prod.mk.injEq]at h
      obtain⟨rfl,rfl⟩:=h
      have hnil:new'= []:=by
       have:=hn2.1
       rw[of_nbeq hz]at this
       exact List.eq_nil_of_length_eq_zero this.symm
      subst hnil
      exact⟨ρ,_,w,real_fits h0 h1 hu hxd hxi hsz hl hn1 (by omega) (by simp[storeCells]),Ext.refl _,.slice hb (by omega) hc hr ho,hs⟩
     |false =>
      rw[hz]at h
      simp only[cond_false]at h
      split at h
      ·rename_i S1 hw
       cases h
       have ho':o'=o+L.d:=by
        rcases ho with ho|ho
        ·exact ho
        exfalso
        have h2:n=0:=by omega
        subst h2
        have:new.length=0:=by rw[source_len hnew];simp
        rw[this]at hz
        cases hz
       subst ho'
       obtain⟨w',a1,a2⟩:=write_sound hs hb hw hn2
       have a1':(storeCells (Addr.add ⟨L.r,o+L.d,none⟩ (len*size)) new').run P w= .ok () w':=by
        rw[Addr.add_lit,show o+L.d+len*size=o+len*size+L.d by omega];exact a1
       exact⟨ρ,_,w',real_fits h0 h1 hu hxd hxi hsz hl hn1 (by omega) a1',Ext.refl _,.slice hb (by omega) hc hr (.inl rfl),a2⟩
      split at h
      ·rename_i S1 hw
       cases h
       have hnl:=source_len hnew
       have ho':o'=o+L.d:=by
        rcases ho with ho|ho
        ·exact ho
        exfalso
        have h2:n=0:=by omega
        subst h2
        have:new.length=0:=by rw[hnl];simp
        rw[this]at hz
        cases hz
       subst ho'
       obtain⟨w',a1,a2⟩:=extend_sound hs hb hw hn2 (fun hz1 hz2=>by
        have h3:=hr (by rw[hz1];exact hz2)
        rw[hz1]at h3
        rw[hnl]
        have h4:(len+n)*size≤c'*size:=Nat.mul_le_mul_right _ (by omega)
        rw[Nat.add_mul]at h4
        omega)
       have a1':(storeCells (Addr.add ⟨L.r,o+L.d,none⟩ (len*size)) new').run P w= .ok () w':=by
        rw[Addr.add_lit,show o+L.d+len*size=o+len*size+L.d by omega];exact a1
       exact⟨ρ,_,w',real_fits h0 h1 hu hxd hxi hsz hl hn1 (by omega) a1',Ext.refl _,.slice hb (by omega) hc hr (.inl rfl),a2⟩
      cases h
   rename_i b o k
   cases hz:(Nat.beq new.length 0&&(Nat.beq (len+n) 0&&Nat.beq cap 0))with
   |false=>rw[hz]at h;cases h
   |true =>
    rw[hz]at h
    simp only[cond_true,Option.some.injEq,Prod.mk.injEq]at h
    obtain⟨rfl,rfl⟩:=h
    simp only[Bool.and_eq_true]at hz
    have hnil:new'= []:=by
     have:=hn2.1
     rw[of_nbeq hz.1]at this
     exact List.eq_nil_of_length_eq_zero this.symm
    subst hnil
    have hln:=of_nbeq hz.2.1
    obtain rfl:n=0:=by omega
    cases hsv
    exact⟨ρ,_,w,real_fits h0 h1 hu hxd hxi hsz hl hn1 (by omega) (by simp[storeCells]),Ext.refl _,.szero _ _ _ _,hs⟩
  |false =>
   rw[hfit]at h
   simp only[cond_false]at h
   have hgt:¬(len+n≤cap):=fun e=>by rw[Nat.ble_eq_true_of_le e]at hfit;cases hfit
   cases hg:(growOk P elem size (len+n)&&append2.cellsAll new)with
   |false=>rw[hg]at h;cases h
   |true =>
    rw[hg]at h
    simp only[cond_true]at h
    rw[Bool.and_eq_true]at hg
    obtain⟨ei,z,hei,hz,hb1,hb2,hmx,hzs,hsp⟩:=growOk_spec hg.1
    have hnl:=source_len hnew
    have hone:∀v,v∈new'→v.oneCell'=true:=by
     intro v hv
     obtain⟨i,hi⟩:=List.getElem?_of_mem hv
     have hil:i<new.length:=by rw[hn2.1];exact(List.getElem?_eq_some_iff.1 hi).1
     rw[(hn2.2 i _ _ (List.getElem?_eq_getElem hil) hi).oneCell,←cellV_eq]
     exact List.all_eq_true.1 hg.2 _ (List.getElem_mem hil)
    unfold appendOut at h
    split at h
    ·-- nil
     cases hz0:Nat.beq len 0 with
     |false=>rw[hz0]at h;cases h
     |true =>
      rw[hz0]at h
      simp only[cond_true,Option.some.injEq]at h
      cases hsv
      obtain⟨cap',hc',hrun⟩:=real_grows (P:=P) (ty:=ty) (base:=none) (old:=[]) (len:=0) (cap:=0) h0 h1 hu hxd hxi hsz hl (by simp[Builtin.firstCells]) hn3 hgt hei hz hb1 hb2 hmx
      have hrow:=new_row hs.drew (c:=new) (arr:=(#[]++new2.toArray++Builtin.zeroCells z.cells (cap'-(0+n)))) (e:=elem) (e':=elem) (z:=size) (fun i y hy=>by
       obtain⟨y',p1,p2⟩:=hn4.get hy
       refine⟨y',?_,p2⟩
       have hi:=(List.getElem?_eq_some_iff.1 p1).1
       rw[Array.getElem?_append_left (by simpa using hi)]
       simpa using p1) (fun _=>rfl) hsz (n:=n) (k:=n) (k':=cap') (Nat.le_refl _) (by omega) (fun _=>by
        simp only[Array.size_append,size_zeroCells,hzs,List.size_toArray,←hn4.1,hnl]
        have:cap'*size=n*size+(cap'-n)*size:=by rw[←Nat.add_mul];congr 1;omega
        simp;omega)
      obtain⟨ρ',b1,b2,b3⟩:=hrow
      cases h
      exact⟨ρ',_,_,hrun,b1,(by rw[Nat.zero_add];exact b3),b2⟩
    ·-- without room
     cases hz0:Nat.beq len 0 with
     |false=>rw[hz0]at h;cases h
     |true =>
      rw[hz0]at h
      simp only[cond_true,Option.some.injEq]at h
      cases hsv
      rename_i a
      obtain⟨cap',hc',hrun⟩:=real_grows (P:=P) (ty:=ty) (base:=some a) (old:=[]) (len:=0) (cap:=0) h0 h1 hu hxd hxi hsz hl (by simp[Builtin.firstCells,loadCells,loadCellsFrom]) hn3 hgt hei hz hb1 hb2 hmx
      have hrow:=new_row hs.drew (c:=new) (arr:=(#[]++new2.toArray++Builtin.zeroCells z.cells (cap'-(0+n)))) (e:=elem) (e':=elem) (z:=size) (fun i y hy=>by
       obtain⟨y',p1,p2⟩:=hn4.get hy
       refine⟨y',?_,p2⟩
       have hi:=(List.getElem?_eq_some_iff.1 p1).1
       rw[Array.getElem?_append_left (by simpa using hi)]
       simpa using p1) (fun _=>rfl) hsz (n:=n) (k:=n) (k':=cap') (Nat.le_refl _) (by omega) (fun _=>by
        simp only[Array.size_append,size_zeroCells,hzs,List.size_toArray,←hn4.1,hnl]
        have:cap'*size=n*size+(cap'-n)*size:=by rw[←Nat.add_mul];congr 1;omega
        simp;omega)
      obtain⟨ρ',b1,b2,b3⟩:=hrow
      cases h
      exact⟨ρ',_,_,hrun,b1,(by rw[Nat.zero_add];exact b3),b2⟩
    rename_i b o
    split at h
    case h_2=>cases h
    rename_i c e kin hB
    split at h
    case h_2=>cases h
    rename_i old hold
    cases hc0:(Nat.beq e elem&&Nat.beq (o+len*size) c.length)with
    |false=>rw[hc0]at h;cases h
    |true =>
     rw[hc0]at h
     simp only[cond_true]at h
     rw[Bool.and_eq_true]at hc0
     have he:=of_nbeq hc0.1
     subst he
     have hend:=of_nbeq hc0.2
     cases hsv with
     |slice hb hnc hcc hr ho =>
      rename_i o' c' L
      have holdl:=(takeN_spec _ _ _ hold).1
      have hLz:L.z=size:=by
       obtain⟨_,_,_,_,_,_,_,g5,_⟩:=hs.blk _ _ _ hb hB
       have:=g5 rfl
       rw[hsz]at this
       exact(Option.some.inj this).symm
      cases h
      by_cases hf:len+n≤c'
      ·have ho':o'=o+L.d:=by
        rcases ho with ho|ho
        ·exact ho
        omega
       subst ho'
       obtain⟨arr,e',fz,g1,g2,g3,g4,g5,g6⟩:=hs.blk _ _ _ hb hB
       have hroom:o+L.d+len*size+new'.length≤arr.size:=by
        have h3:=hr (by omega)
        rw[hLz]at h3
        have h4:(len+n)*size≤c'*size:=Nat.mul_le_mul_right _ hf
        rw[Nat.add_mul]at h4
        rw[g2,←hn2.1,hnl]
        omega
       obtain⟨arr',w',a1,a2,a3,a4⟩:=run_storeCells (P:=P) new' w arr (o+L.d+len*size) 0 g1 (by omega) (fun j hj=>g4 rfl j (by omega)) hone
       have hin:=inplace_sound hs hb hB (o:=o) (old:=old) (new:=new) (by omega) (take_get hold) a2 g1 a3 hn2 (fun j=>by
        rw[a4 j,show o+L.d+len*size+0=c.length+L.d by omega])
       refine⟨_,_,w',real_fits h0 h1 hu hxd hxi hsz hl hn1 hf (by rw[Addr.add_lit];exact a1),hin.1,?_,hin.2⟩
       exact VR.slice (L:=⟨L.r,L.d+o,L.tot,L.z⟩) (upd_same _ _ _) (Nat.le_refl _) hf hr (.inl (by show o+L.d=0+(L.d+o);omega))
      obtain⟨old',p1,p2⟩:=old_cells (P:=P) hs.drew hb hB hold o' len c' (by
       rcases ho with ho|ho
       ·exact .inl ho
       exact .inr (by omega))
      obtain⟨cap',hc',hrun⟩:=real_grows (P:=P) (ty:=ty) h0 h1 hu hxd hxi hsz hl p1 hn3 hf hei hz hb1 hb2 hmx
      have hgr:=grown_sound hs.drew hb hB
      have hcells:=new_cells (P:=P) (e:=e) (e':=e) (row:=true) (kin:=b::kin) (z:=size) (c:=old++new) (arr:=old'.toArray++new2.toArray++Builtin.zeroCells z.cells (cap'-(len+n))) hgr (fun i y hy=>by
       obtain⟨y',q1,q2⟩:=(p2.append hn4).get hy
       refine⟨y',?_,q2⟩
       have hi:=(List.getElem?_eq_some_iff.1 q1).1
       rw[Array.getElem?_append_left (by simpa using hi)]
       simpa using q1) (fun _=>hsz) (by simp) (fun _=>rfl)
      refine⟨_,_,_,hrun,hcells.1,?_,hcells.2⟩
      refine VR.slice (L:=⟨w.drew.heap.size,0,_,size⟩) (upd_same _ _ _) (Nat.le_refl _) hc' (fun _=>?_) (.inl rfl)
      simp only[Array.size_append,size_zeroCells,hzs,List.size_toArray,←hn4.1,←p2.1,hnl,holdl]
      have:cap'*size=len*size+n*size+(cap'-(len+n))*size:=by rw[←Nat.add_mul,←Nat.add_mul];congr 1;omega
      omega
end Go.Cm
namespace Go.Cm
open Go
variable{P:Program}{w0:Base}
theorem OpGood.same{ρ:Rmap}{S:St}{w:World}(hs:Sim P w0 ρ S w){v v':Value}{r:Result Value}(h:r= .ok v' w)(hv:VR ρ v v'):OpGood P w0 ρ v S r:=⟨ρ,v',w,h,Ext.refl _,hv,hs⟩
theorem wrap_small{n:Int}(h0:0≤n)(h1:n<9223372036854775808):IntKind.i64.wrap n=n:=by
 have e:n%(2 ^ IntKind.i64.bits:Int)=n:=Int.emod_eq_of_lt h0 (by show n<18446744073709551616;omega)
 simp only[IntKind.wrap,e]
 rw[if_neg]
 simp only[Bool.and_eq_true,decide_eq_true_eq,not_and]
 intro _
 show ¬(9223372036854775808≤n)
 omega
theorem makeSlice_sound{ρ:Rmap}{S S':St}{w:World}(hs:Sim P w0 ρ S w){t:TypeId}{l c l' c' v:Value}(h:makeSliceV P t l c S=some (v,S'))(hl:VR ρ l l')(hc:VR ρ c c'):OpGood P w0 ρ v S' ((Instr.makeSlice t l' c').run P w):=by
 unfold makeSliceV at h
 split at h
 case h_2=>cases h
 rename_i elem k1 ln k2 cp hu
 cases hl;cases hc
 split at h
 case h_2=>cases h
 rename_i ei hei
 split at h
 case h_2=>cases h
 rename_i z hz
 split at h
 case isFalse=>cases h
 rename_i hle
 obtain⟨a1,a2,a3,a4,a5⟩:=hle
 have hzc:z.cells.size=ei.size:=by rw[cellsL_eq]at a5;simpa using a5
 have hsz:szOf P elem=some ei.size:=by unfold szOf;rw[hei]
 have w1:IntKind.i64.wrap ln=ln:=wrap_small (by omega) (by have h9:=a3;simp only[maxNeed,Nat.reducePow]at h9;omega)
 have w2:IntKind.i64.wrap cp=cp:=wrap_small (by omega) (by have h9:=a3;simp only[maxNeed,Nat.reducePow]at h9;omega)
 have b1:(ei.bytes:Int)*cp≤1024*1073741824:=by
  have h1:(ei.bytes:Int)≤1024:=by omega
  have h2:cp≤1073741824:=by have h9:=a3;simp only[maxNeed,Nat.reducePow]at h9;omega
  exact Int.mul_le_mul h1 h2 (by omega) (by omega)
 have hnl:(decide (cp<0)||decide ((ei.bytes:Int)*cp>2 ^ 48))=false :=
  Bool.or_eq_false_iff.2 ⟨decide_eq_false (by omega),decide_eq_false (by omega)⟩
 have hzv:=zeros_vr (ρ:=ρ) hz cp.toNat (cp.toNat*ei.size) (by rw[hzc])
 obtain⟨ρ',d1,d2,d3⟩:=new_row hs (c:=replL cp.toNat (cellsL z)) (arr:=(Array.range (cp.toNat*ei.size)).map (fun i=>z.cells[i%z.cells.size]!)) (e:=elem) (e':=elem) (z:=ei.size)
  (fun i y hy=>by obtain⟨y',p1,p2⟩:=hzv.get hy;exact⟨y',by rw[←Array.getElem?_toList];exact p1,p2⟩) (fun _=>rfl) hsz (n:=ln.toNat) (k:=cp.toNat) (k':=cp.toNat) (by omega) (Nat.le_refl _) (fun _=>by simp)
 cases h
 refine⟨ρ',_,_,?_,d1,d3,d2⟩
 have hcond:(decide (cp<0)||decide ((ei.bytes:Int)*cp>2 ^ 48)||decide (ln<0)||decide (ln>cp))=false:=by
  rw[hnl]
  exact Bool.or_eq_false_iff.2 ⟨Bool.or_eq_false_iff.2 ⟨rfl,decide_eq_false (by omega)⟩,decide_eq_false (by omega)⟩
 unfold Instr.makeSlice
 simp only[Sem.run_bind,run_und w hu,Result.andThen_ok,asInt,asIntOf,Sem.run_pure,run_info w hei,w1,w2]
 rw[if_neg (by rw[hcond];simp)]
 simp only[Sem.run_bind,Result.andThen_ok,run_askRoom,run_size w hsz]
 by_cases h0:cp.toNat*ei.size=0
 ·rw[if_pos h0]
  have e1:Array.map (fun x=>(#[]:Array Value)[x%(#[]:Array Value).size]!) (Array.range (cp.toNat*ei.size))=Array.map (fun i=>z.cells[i%z.cells.size]!) (Array.range (cp.toNat*ei.size)):=by rw[h0];simp
  simp only[Sem.run_bind,Sem.run_pure,Result.andThen_ok]
  rw[e1]
  simp[newRow]
 rw[if_neg h0]
 simp only[Sem.run_bind,run_zero w hz,Sem.run_pure,Result.andThen_ok]
 simp[newRow]
mutual
theorem sameV_eq:∀(n:Nat) (a b:Value),sameV n a b=true→a=b
 |0,a,b,h=>by simp[sameV]at h
 |n+1,a,b,h=>by
  cases a<;>cases b<;>first
   |rfl
   |(simp[sameV]at h;done)
   |(simp[sameV]at h;simp[h];done)
   |(simp only[sameV,Bool.and_eq_true,decide_eq_true_eq]at h;obtain⟨rfl,rfl⟩:=h;rfl)
   |(rename_i x y;simp only[sameV,sameBytes_eq,beq_iff_eq]at h;congr 1;apply ByteArray.ext;apply Array.ext';exact h)
   |(rename_i x n1 c1 y n2 c2;simp only[sameV,Bool.and_eq_true,decide_eq_true_eq]at h;obtain⟨⟨rfl,h2⟩,h3⟩:=h;rw[of_nbeq h2,of_nbeq h3])
   |(rename_i x y;simp only[sameV]at h;congr 1;apply Array.ext';exact sameL_eq n _ _ h)
   |(rename_i t x u y;simp only[sameV,Bool.and_eq_true]at h;rw[of_nbeq h.1,sameV_eq n _ _ h.2])
   |(rename_i f x1 x2 g y1 y2;simp only[sameV,Bool.and_eq_true,decide_eq_true_eq]at h;obtain⟨⟨rfl,h2⟩,h3⟩:=h;congr 1;exact Array.ext' (sameL_eq n _ _ h2);exact Array.ext' (sameL_eq n _ _ h3))
theorem sameL_eq:∀(n:Nat) (a b:List Value),sameL n a b=true→a=b
 |0,a,b,h=>by simp[sameL]at h
 |n+1,[],[],_=>rfl
 |n+1,[],_::_,h=>by simp[sameL]at h
 |n+1,_::_,[],h=>by simp[sameL]at h
 |n+1,x::a,y::b,h=>by
  simp only[sameL,Bool.and_eq_true]at h
  rw[sameV_eq n _ _ h.1,sameL_eq n _ _ h.2]
end
end Go.Cm
namespace Go.Cm
open Go
variable{P:Program}{w0:Base}
theorem setObj_put{w:World}{r:Nat}{o o':Obj}(h:w.heap[r]?=some o)(hnc:∀c e f,o≠ .cells c e f):∃w',(setObj r o').run P w= .ok () w'∧WPut r o' w w':=by
 have hr:r<w.heap.size:=(Array.getElem?_eq_some_iff.1 h).1
 refine⟨{w with heap:=w.heap.setIfInBounds r o'},?_,⟨fun k hk=>?_,?_,by simp,rfl,rfl⟩⟩
 ·cases o<;>first
   |exact absurd rfl (hnc _ _ _)
   |simp[setObj,Sem.run,h]
 ·show(w.heap.setIfInBounds r o')[k]?=_
  rw[Array.getElem?_setIfInBounds,if_neg (fun e=>hk e.symm)]
 show(w.heap.setIfInBounds r o')[r]?=_
 rw[Array.getElem?_setIfInBounds,if_pos rfl,if_pos hr]
theorem plainKey_vr{ρ:Rmap}:∀(n:Nat) (k v':Value),plainKey n k=true→VR ρ k v'→v'=k
 |n,.bool _,_,_,h=>by cases h;rfl
 |n,.int _ _,_,_,h=>by cases h;rfl
 |n,.string _,_,_,h=>by cases h;rfl
 |n+1,.agg ⟨cs⟩,v',hp,h=>by
  obtain⟨a',rfl,hr⟩:=h.agg_inv
  congr 1
  apply Array.ext'
  simp only[plainKey]at hp
  apply List.ext_getElem?
  intro i
  have hp':∀x,x∈cs→plainKey n x=true:=by simpa using hp
  by_cases hi:i<cs.length
  ·have hx:=List.getElem?_eq_getElem hi
   obtain⟨x',h1,h2⟩:=hr.get (i:=i) (v:=cs[i]) hx
   rw[h1,hx,plainKey_vr n _ _ (hp' _ (List.getElem_mem hi)) h2]
  have hl:=hr.1
  rw[List.getElem?_eq_none (by rw[←hl];exact Nat.le_of_not_lt hi),List.getElem?_eq_none (Nat.le_of_not_lt hi)]
 |0,.agg _,_,hp,_=>by simp[plainKey]at hp
 |n,.float _ _,_,hp,_=>by cases n<;>simp[plainKey]at hp
 |n,.complex _ _ _,_,hp,_=>by cases n<;>simp[plainKey]at hp
 |n,.pointer _,_,hp,_=>by cases n<;>simp[plainKey]at hp
 |n,.slice _ _ _,_,hp,_=>by cases n<;>simp[plainKey]at hp
 |n,.map _,_,hp,_=>by cases n<;>simp[plainKey]at hp
 |n,.chan _,_,hp,_=>by cases n<;>simp[plainKey]at hp
 |n,.func _ _ _,_,hp,_=>by cases n<;>simp[plainKey]at hp
 |n,.nilFunc,_,hp,_=>by cases n<;>simp[plainKey]at hp
 |n,.iface _ _,_,hp,_=>by cases n<;>simp[plainKey]at hp
 |n,.nilIface,_,hp,_=>by cases n<;>simp[plainKey]at hp
 |n,.tuple _,_,hp,_=>by cases n<;>simp[plainKey]at hp
theorem sameBits_refl:∀(n N:Nat) (k:Value),n≤N→plainKey n k=true→Instr.sameBits N k k=true
 |n,N,.bool _,_,_=>by simp[Instr.sameBits]
 |n,N,.int _ _,_,_=>by simp[Instr.sameBits]
 |n,N,.string _,_,_=>by simp[Instr.sameBits,beq_toListBytes]
 |n+1,N,.agg ⟨cs⟩,hN,hp=>by
  obtain⟨N,rfl⟩:∃M,N=M+1:=⟨N-1,by omega⟩
  have hp':∀x,x∈cs→plainKey n x=true:=by simpa [plainKey]using hp
  have:∀l:List Value,(∀x,x∈l→plainKey n x=true)→(l.zip l).all (fun x=>Instr.sameBits N x.1 x.2)=true:=by
   intro l
   induction l with
   |nil=>simp
   |cons x l ih =>
    intro hl
    simp only[List.zip_cons_cons,List.all_cons,Bool.and_eq_true]
    exact⟨sameBits_refl n N x (by omega) (hl x (by simp)),ih fun y hy=>hl y (by simp[hy])⟩
  simp only[Instr.sameBits,beq_self_eq_true,Bool.true_and]
  exact this cs hp'
 |0,N,.agg _,_,hp=>by simp[plainKey]at hp
 |n,N,.float _ _,_,hp=>by cases n<;>simp[plainKey]at hp
 |n,N,.complex _ _ _,_,hp=>by cases n<;>simp[plainKey]at hp
 |n,N,.pointer _,_,hp=>by cases n<;>simp[plainKey]at hp
 |n,N,.slice _ _ _,_,hp=>by cases n<;>simp[plainKey]at hp
 |n,N,.map _,_,hp=>by cases n<;>simp[plainKey]at hp
 |n,N,.chan _,_,hp=>by cases n<;>simp[plainKey]at hp
 |n,N,.func _ _ _,_,hp=>by cases n<;>simp[plainKey]at hp
 |n,N,.nilFunc,_,hp=>by cases n<;>simp[plainKey]at hp
 |n,N,.iface _ _,_,hp=>by cases n<;>simp[plainKey]at hp
 |n,N,.nilIface,_,hp=>by cases n<;>simp[plainKey]at hp
 |n,N,.tuple _,_,hp=>by cases n<;>simp[plainKey]at hp
theorem setEntry_get:∀(es:List MapEntry) (i:Nat) (k v:Value) (j:Nat),(setEntry es i k v)[j]?=if i=j then(es[j]?).map (fun e=>{e with key:=k,val:=v})else es[j]?
 | [],i,k,v,j=>by simp[setEntry]
 |e::es,0,k,v,0=>by simp[setEntry]
 |e::es,0,k,v,j+1=>by simp[setEntry]
 |e::es,i+1,k,v,0=>by simp[setEntry]
 |e::es,i+1,k,v,j+1=>by simp[setEntry,setEntry_get es i k v j]
theorem setEntry_length:∀(es:List MapEntry) (i:Nat) (k v:Value),(setEntry es i k v).length=es.length
 | [],i,k,v=>by simp[setEntry]
 |e::es,0,k,v=>by simp[setEntry]
 |e::es,i+1,k,v=>by simp[setEntry,setEntry_length es i k v]
theorem mapUpdate_sound{ρ:Rmap}{S S':St}{w:World}(hs:Sim P w0 ρ S w){t:TypeId}{m k v m' k' v':Value}(h:mapUpdateV P t m k v S=some S')(hm:VR ρ m m')(hk:VR ρ k k')(hv:VR ρ v v') :
  ∃w',(Instr.mapUpdate t m' k' v').run P w= .ok () w'∧Sim P w0 ρ S' w':=by
 unfold mapUpdateV at h
 split at h
 case h_2=>cases h
 rename_i key elem r hu
 split at h
 case h_2=>cases h
 rename_i es clock hB
 split at h
 case isFalse=>cases h
 rename_i hkk
 rw[Bool.and_eq_true]at hkk
 cases hm with
 |map hb =>
  rename_i L
  obtain⟨es',h1,h2⟩:=hs.blk _ _ _ hb hB
  have hg:(getObj L.r).run P w= .ok (.map es'.toArray clock) w:=by simp[getObj,Sem.run,h1]
  have hck:=keyOk_sound (P:=P) (ρ:=ρ) false 20 10000 key k k' w (by decide) hkk.1 hk
  obtain⟨d,hd⟩:=keyOk_und hkk.1
  have hkeq:=plainKey_vr 20 k k' hkk.2 hk
  subst hkeq
  split at h
  ·rename_i i v0 hf
   split at h
   case h_2=>cases h
   rename_i e hei
   cases hsame:sameV 1000 e.key k' with
   |false=>rw[hsame]at h;cases h
   |true =>
    rw[hsame]at h
    simp only[cond_true,Option.some.injEq]at h
    subst h
    obtain⟨q,a,b⟩:=find_sound hk w h2 hf hd
    cases q with
    |none=>exact b.elim
    |some y =>
     obtain⟨j,vj⟩:=y
     obtain⟨rfl,hvj⟩:=b
     rw[nth_eq]at hei
     have hil:=(List.getElem?_eq_some_iff.1 hei).1
     obtain⟨e2,hei'⟩:∃e2,es'[i]?=some e2:=⟨_,List.getElem?_eq_getElem (by rw[←h2.1];exact hil)⟩
     have her:=h2.2 i e _ hei hei'
     have hek:e2.key=k':=by
      have h3:=sameV_eq _ _ _ hsame
      have h4:=her.1
      rw[h3]at h4
      exact plainKey_vr 20 k' _ hkk.2 h4
     obtain⟨w',p1,p2⟩:=setObj_put (P:=P) (o':= .map (es'.toArray.modify i fun e=>{e with key:=k',val:=v'}) clock) h1 (by simp)
     refine⟨w',?_,?_⟩
     ·have hks:(Instr.keyThatStays k' k').run P w= .ok k' w:=by simp[Instr.keyThatStays,sameBits_refl 20 10000 k' (by decide) hkk.2]
      have hgd:((es'.toArray[i]?).map (·.key)).getD k'=k':=by
       have:es'.toArray[i]?=some e2:=by simpa using hei'
       rw[this];exact hek
      simp only[Instr.mapUpdate,Sem.run_bind,run_und w hu,Result.andThen_ok,hg,hck,a,hgd,hks,p1]
     have hput:=hs.put (B:= .map es clock) (B':= .map (setEntry es i k' v) clock) hb hB rfl p2 ⟨(es'.toArray.modify i fun e=>{e with key:=k',val:=v'}).toList,by simp,by
       refine⟨by rw[setEntry_length];simpa using h2.1,fun x a a' hx hx'=>?_⟩
       rw[setEntry_get]at hx
       rw[Array.getElem?_toList,Array.getElem?_modify]at hx'
       have hxx:es'.toArray[x]?=es'[x]?:=by simp
       rw[hxx]at hx'
       by_cases hix:i=x
       ·subst hix
        rw[if_pos rfl,hei]at hx
        rw[if_pos rfl,hei']at hx'
        cases hx;cases hx'
        exact⟨hk,hv,her.2.2⟩
       rw[if_neg hix]at hx hx'
       exact h2.2 x a a' hx hx'⟩
     exact hput
  ·rename_i hf
   cases h
   obtain⟨q,a,b⟩:=find_sound hk w h2 hf hd
   cases q with
   |some y=>exact b.elim
   |none =>
    obtain⟨w',p1,p2⟩:=setObj_put (P:=P) (o':= .map (es'.toArray.push {key:=k',val:=v',born:=clock}) (clock+1)) h1 (by simp)
    refine⟨w',by simp only[Instr.mapUpdate,Sem.run_bind,run_und w hu,Result.andThen_ok,hg,hck,a,p1],?_⟩
    have hput:=hs.put (B:= .map es clock) (B':= .map (es++[{key:=k',val:=v,born:=clock}]) (clock+1)) hb hB rfl p2 ⟨es'++[{key:=k',val:=v',born:=clock}],by simp,by
     refine⟨by simp[h2.1],fun x a a' hx hx'=>?_⟩
     by_cases hxl:x<es.length
     ·rw[List.getElem?_append_left hxl]at hx
      rw[List.getElem?_append_left (by rw[←h2.1];exact hxl)]at hx'
      exact h2.2 x a a' hx hx'
     rw[List.getElem?_append_right (by omega)]at hx
     rw[List.getElem?_append_right (by rw[←h2.1];omega),←h2.1]at hx'
     have:x-es.length=0:=by
      have:=(List.getElem?_eq_some_iff.1 hx).1
      simp at this;omega
     rw[this]at hx hx'
     simp at hx hx'
     subst hx;subst hx'
     exact⟨hk,hv,rfl⟩⟩
    exact hput
  cases h
theorem mapEntry_sound{ρ:Rmap}{S S':St}{w:World}(hs:Sim P w0 ρ S w){t:TypeId}{m k m' k' x:Value}(h:mapEntryV P t m k S=some (x,S'))(hm:VR ρ m m')(hk:VR ρ k k') :
  OpGood P w0 ρ x S' ((Instr.mapEntry t m' k').run P w):=by
 unfold mapEntryV at h
 split at h
 case h_2=>cases h
 rename_i key elem r hu
 split at h
 case h_2=>cases h
 rename_i es clock hB
 split at h
 case isFalse=>cases h
 rename_i hkk
 rw[Bool.and_eq_true]at hkk
 cases hm with
 |map hb =>
  rename_i L
  obtain⟨es',h1,h2⟩:=hs.blk _ _ _ hb hB
  have hg:(getObj L.r).run P w= .ok (.map es'.toArray clock) w:=by simp[getObj,Sem.run,h1]
  have hck:=keyOk_sound (P:=P) (ρ:=ρ) false 20 10000 key k k' w (by decide) hkk.1 hk
  obtain⟨d,hd⟩:=keyOk_und hkk.1
  have hkeq:=plainKey_vr 20 k k' hkk.2 hk
  subst hkeq
  split at h
  ·rename_i i v0 hf
   split at h
   case h_2=>cases h
   rename_i e hei
   cases hsame:sameV 1000 e.key k' with
   |false=>rw[hsame]at h;cases h
   |true =>
    rw[hsame]at h
    simp only[cond_true,Option.some.injEq,Prod.mk.injEq]at h
    obtain⟨rfl,rfl⟩:=h
    obtain⟨q,a,b⟩:=find_sound hk w h2 hf hd
    cases q with
    |none=>exact b.elim
    |some y =>
     obtain⟨j,vj⟩:=y
     obtain⟨rfl,hvj⟩:=b
     rw[nth_eq]at hei
     have hil:=(List.getElem?_eq_some_iff.1 hei).1
     obtain⟨e2,hei'⟩:∃e2,es'[i]?=some e2:=⟨_,List.getElem?_eq_getElem (by rw[←h2.1];exact hil)⟩
     have her:=h2.2 i e _ hei hei'
     have hek:e2.key=k':=by
      have h3:=sameV_eq _ _ _ hsame
      have h4:=her.1
      rw[h3]at h4
      exact plainKey_vr 20 k' _ hkk.2 h4
     obtain⟨w',p1,p2⟩:=setObj_put (P:=P) (o':= .map (es'.toArray.modify i fun e=>{e with key:=k'}) clock) h1 (by simp)
     refine⟨ρ,.tuple #[vj,goInt e2.born],w',?_,Ext.refl _,VR.tuple' (VRs.cons hvj (VRs.cons ?_ .nil)),?_⟩
     ·have hks:(Instr.keyThatStays k' k').run P w= .ok k' w:=by simp[Instr.keyThatStays,sameBits_refl 20 10000 k' (by decide) hkk.2]
      have h6:es'.toArray[i]?=some e2:=by simpa using hei'
      have hgd:((es'.toArray[i]?).map (·.key)).getD k'=k':=by
       rw[h6];exact hek
      have hbn:((es'.toArray[i]?).map (fun x:MapEntry=>(x.born:Int))).getD 0=(e2.born:Int):=by
       rw[h6];rfl
      simp only[Instr.mapEntry,Sem.run_bind,run_und w hu,Result.andThen_ok,hg,hck,a,hgd,hks,p1,hbn,Sem.run_pure]
     ·rw[her.2.2]
      exact .int _ _
     have hput:=hs.put (B:= .map es clock) (B':= .map (setEntry es i k' e.val) clock) hb hB rfl p2 ⟨(es'.toArray.modify i fun e=>{e with key:=k'}).toList,by simp,by
       refine⟨by rw[setEntry_length];simpa using h2.1,fun x a a' hx hx'=>?_⟩
       rw[setEntry_get]at hx
       rw[Array.getElem?_toList,Array.getElem?_modify]at hx'
       have hxx:es'.toArray[x]?=es'[x]?:=by simp
       rw[hxx]at hx'
       by_cases hix:i=x
       ·subst hix
        rw[if_pos rfl,hei]at hx
        rw[if_pos rfl,hei']at hx'
        cases hx;cases hx'
        exact⟨hk,her.2.1,her.2.2⟩
       rw[if_neg hix]at hx hx'
       exact h2.2 x a a' hx hx'⟩
     exact hput
  ·rename_i hf
   split at h
   case h_2=>cases h
   rename_i z hz
   cases h
   obtain⟨q,a,b⟩:=find_sound hk w h2 hf hd
   cases q with
   |some y=>exact b.elim
   |none =>
    obtain⟨_,_,_,hfl⟩:=zeroV_spec hz
    have hv:=hfl.refl ρ
    obtain⟨w',p1,p2⟩:=setObj_put (P:=P) (o':= .map (es'.toArray.push {key:=k',val:=z,born:=clock}) (clock+1)) h1 (by simp)
    refine⟨ρ,_,w',by simp only[Instr.mapEntry,Sem.run_bind,run_und w hu,Result.andThen_ok,hg,hck,a,run_zero w hz,p1,Sem.run_pure];rfl,Ext.refl _,VR.tuple' (VRs.cons hv (VRs.cons (.int _ _) .nil)),?_⟩
    have hput:=hs.put (B:= .map es clock) (B':= .map (es++[{key:=k',val:=z,born:=clock}]) (clock+1)) hb hB rfl p2 ⟨es'++[{key:=k',val:=z,born:=clock}],by simp,by
     refine⟨by simp[h2.1],fun x a a' hx hx'=>?_⟩
     by_cases hxl:x<es.length
     ·rw[List.getElem?_append_left hxl]at hx
      rw[List.getElem?_append_left (by rw[←h2.1];exact hxl)]at hx'
      exact h2.2 x a a' hx hx'
     rw[List.getElem?_append_right (by omega)]at hx
     rw[List.getElem?_append_right (by rw[←h2.1];omega),←h2.1]at hx'
     have:x-es.length=0:=by
      have:=(List.getElem?_eq_some_iff.1 hx).1
      simp at this;omega
     rw[this]at hx hx'
     simp at hx hx'
     subst hx;subst hx'
     exact⟨hk,hv,rfl⟩⟩
    exact hput
  cases h
theorem storeEntry_spec{born:Int}{v:Value}:∀(es es1:List MapEntry),storeEntry born v es=some es1→∃(i:Nat) (e:MapEntry),es[i]?=some e∧(e.born:Int)=born∧(∀(j:Nat) (e':MapEntry),j<i→es[j]?=some e'→(e'.born:Int)≠born) ∧
  es1.length=es.length∧∀(j:Nat),es1[j]?=if i=j then some {e with val:=v}else es[j]?
 | [],es1,h=>by cases h
 |e::es,es1,h=>by
  unfold storeEntry at h
  split at h
  ·rename_i hb
   cases h
   refine⟨0,e,rfl,hb,fun j e' hj=>by omega,rfl,fun j=>?_⟩
   cases j with
   |zero=>simp
   |succ j=>simp
  rename_i hb
  split at h
  ·rename_i r hr
   cases h
   obtain⟨i,e0,a1,a2,a3,a4,a5⟩:=storeEntry_spec es r hr
   refine⟨i+1,e0,by simpa using a1,a2,fun j e' hj he=>?_,by simp[a4],fun j=>?_⟩
   ·cases j with
    |zero=>simp at he;subst he;exact hb
    |succ j=>exact a3 j e' (by omega) (by simpa using he)
   cases j with
   |zero=>simp
   |succ j=>simpa using a5 j
  cases h
theorem entryStore_sound{ρ:Rmap}{S S':St}{w:World}(hs:Sim P w0 ρ S w){t:TypeId}{m s v m' s' v':Value}(h:entryStoreV m s v S=some S')(hm:VR ρ m m')(hss:VR ρ s s')(hv:VR ρ v v') :
  ∃w',(Instr.entryStore t m' s' v').run P w= .ok () w'∧Sim P w0 ρ S' w':=by
 unfold entryStoreV at h
 split at h
 case h_2=>cases h
 rename_i r k born
 split at h
 case h_2=>cases h
 rename_i es clock hB
 split at h
 case h_2=>cases h
 rename_i es1 hst
 cases h
 cases hss
 cases hm with
 |map hb =>
  rename_i L
  obtain⟨es',h1,h2⟩:=hs.blk _ _ _ hb hB
  have hg:(getObj L.r).run P w= .ok (.map es'.toArray clock) w:=by simp[getObj,Sem.run,h1]
  obtain⟨i,e,a1,a2,a3,a4,a5⟩:=storeEntry_spec es es1 hst
  have hil:=(List.getElem?_eq_some_iff.1 a1).1
  obtain⟨e2,hei'⟩:∃e2,es'[i]?=some e2:=⟨_,List.getElem?_eq_getElem (by rw[←h2.1];exact hil)⟩
  have her:=h2.2 i e _ a1 hei'
  have hidx:es'.toArray.findIdx? (fun e:MapEntry=>(e.born:Int)==born)=some i:=by
   rw[List.findIdx?_toArray,List.findIdx?_eq_some_iff_getElem]
   have hil':i<es'.length:=(List.getElem?_eq_some_iff.1 hei').1
   refine⟨hil',?_,fun j hj=>?_⟩
   ·have:es'[i]=e2:=by
     have:=List.getElem?_eq_getElem hil'
     rw[hei']at this
     exact(Option.some.inj this).symm
    rw[this]
    have hb2:e2.born=e.born:=her.2.2
    simp[hb2,a2]
   have hjl:j<es.length:=by omega
   have hj':=List.getElem?_eq_getElem hjl
   have hj2:=List.getElem?_eq_getElem (show j<es'.length by omega)
   have hb2:=(h2.2 j _ _ hj' hj2).2.2
   have:=a3 j _ hj hj'
   rw[←hb2]at this
   simpa using this
  obtain⟨w',p1,p2⟩:=setObj_put (P:=P) (o':= .map (es'.toArray.modify i fun e=>{e with val:=v'}) clock) h1 (by simp)
  refine⟨w',by simp only[Instr.entryStore,Sem.run_bind,hg,Result.andThen_ok,asInt,asIntOf,Sem.run_pure,hidx,p1],?_⟩
  have hput:=hs.put (B:= .map es clock) (B':= .map es1 clock) hb hB rfl p2 ⟨(es'.toArray.modify i fun e=>{e with val:=v'}).toList,by simp,by
   refine⟨by rw[a4];simpa using h2.1,fun x a a' hx hx'=>?_⟩
   rw[a5]at hx
   rw[Array.getElem?_toList,Array.getElem?_modify]at hx'
   have hxx:es'.toArray[x]?=es'[x]?:=by simp
   rw[hxx]at hx'
   by_cases hix:i=x
   ·subst hix
    rw[if_pos rfl]at hx
    rw[if_pos rfl,hei']at hx'
    cases hx;cases hx'
    exact⟨her.1,hv,her.2.2⟩
   rw[if_neg hix]at hx hx'
   exact h2.2 x a a' hx hx'⟩
  exact hput
theorem minmax_sound{ρ:Rmap}{isMax:Bool}{ty:TypeId}{ts:Array TypeId}:∀(r r':List Value) (x x' v:Value),minmaxV isMax x r=some v→VR ρ x x'→VRs ρ r r'→∀w:World,
  ∃v',(r'.foldlM (if isMax then Builtin.max2 else Builtin.min2) x').run P w= .ok v' w∧VR ρ v v'
 | [],r',x,x',v,h,hx,hr,w=>by
  cases hr.nil_inv
  simp[minmaxV]at h;subst h
  exact⟨x',by simp,hx⟩
 |y::r,r',x,x',v,h,hx,hr,w=>by
  obtain⟨y',r'',rfl,hy,hr'⟩:=hr.cons_inv
  cases x<;>cases y<;>simp only[minmaxV]at h<;>try (cases h;done)
  cases hx;cases hy
  obtain⟨v',a,b⟩:=minmax_sound (ty:=ty) (ts:=ts) r r'' _ _ v h (.int _ _) hr' w
  refine⟨v',?_,b⟩
  rw[List.foldlM_cons,Sem.run_bind]
  cases isMax<;>simp only[Builtin.min2,Builtin.max2,Bool.false_eq_true,if_true,if_false,Sem.run_pure,Result.andThen_ok]at a⊢ <;>exact a
end Go.Cm
namespace Go.Cm
open Go
variable{P:Program}{w0:Base}
theorem bytes_vr{ρ:Rmap}:∀(l l':List Value) (bs:List UInt8),bytesL l=some bs→VRs ρ l l'→∃ns:List Int,l'=ns.map (Value.int .u8)∧bs=ns.map (fun n=>UInt8.ofNat n.toNat)
 | [],l',bs,h,hv=>by
  simp only[bytesL,Option.some.injEq]at h
  subst h
  cases hv.nil_inv
  exact⟨[],rfl,rfl⟩
 |v::l,l',bs,h,hv=>by
  obtain⟨v',l2,rfl,h1,h2⟩:=hv.cons_inv
  unfold bytesL at h
  split at h
  ·rename_i he;cases he
  ·rename_i n r he
   cases he
   split at h
   ·rename_i bs2 hb
    cases h
    cases h1
    obtain⟨ns,rfl,rfl⟩:=bytes_vr _ _ _ hb h2
    exact⟨n::ns,rfl,rfl⟩
   cases h
  cases h
theorem push_all(ns:List Int):∀acc:ByteArray,ns.foldl (fun r n=>r.push (UInt8.ofNat n.toNat)) acc=⟨acc.data++(ns.map (fun n=>UInt8.ofNat n.toNat)).toArray⟩:=by
 induction ns with
 |nil=>intro acc;simp
 |cons n ns ih =>
  intro acc
  rw[List.foldl_cons,ih]
  have:(acc.push (UInt8.ofNat n.toNat)).data=acc.data.push (UInt8.ofNat n.toNat):=rfl
  rw[this]
  congr 1
  simp
theorem first_load{size n:Nat}{a:Addr}{k c:Nat}{w:World}{l:List Value}(h:(Builtin.firstCells size n (.slice (some a) k c)).run P w= .ok l.toArray w):(loadCells a (n*size)).run P w= .ok l.toArray w:=h
theorem shape_of{w:World}{r:Nat}{arr:Array Value}{e:TypeId}{fz:Nat×Nat}(h:w.heap[r]?=some (.cells arr e fz)):w.shape? r=some (e,arr.size):=by
 simp[World.shape?,h]
theorem liesAt_row{e:TypeId}(hc:P.cellsOf e=1)(count off n:Nat)(hn:off+n≤count):liesAt P P.depth e count off e n=true:=by
 have hd:P.depth=(2*(P.types.size+Made.depth)+1)+1:=rfl
 rw[hd]
 simp only[liesAt,Bool.or_eq_true]
 left
 rw[hd]
 simp[rowAt,hc,hn,sameLayout,Nat.mod_one]
theorem conv_sound{ρ:Rmap}{S S':St}{w:World}(hs:Sim P w0 ρ S w){s d:TypeId}{x x' v:Value}(h:convV P S s d x=some (v,S'))(hx:VR ρ x x'):OpGood P w0 ρ v S' ((convert s d x').run P w):=by
 unfold convV at h
 split at h
 ·rename_i d1 k k' n hu1 hu2
  cases h;cases hx
  refine .same hs ?_ (.int _ _)
  simp only[convert,Sem.run_bind,run_und w hu1,run_und w hu2,Result.andThen_ok]
  cases d1<;>simp[Conv.intToInt]
 ·rename_i d1 b hu1 hu2
  cases h;cases hx
  refine .same hs ?_ (.string _)
  simp only[convert,Sem.run_bind,run_und w hu1,run_und w hu2,Result.andThen_ok]
  cases d1<;>simp
 ·rename_i e n c hu1 hu2
  split at h
  ·rename_i hu3
   cases h;cases hx
   exact .same hs (by simp[convert,run_und w hu1,run_und w hu2,run_und w hu3,Conv.bytesToString];rfl) (.string _)
  cases h
 ·rename_i e a n c hu1 hu2
  split at h
  ·rename_i l hu3 hl
   split at h
   ·rename_i bs hb
    cases h
    obtain⟨l',p,q⟩:=source_sound hs hl hx (fun k hk=>by simp only[lenOfV,Option.some.injEq]at hk;omega)
    obtain⟨ns,rfl,rfl⟩:=bytes_vr _ _ _ hb q
    cases hx with
    |slice hb1 hnc hc hr ho =>
     rename_i bb oo o2 c2 L
     have p2:=first_load p
     rw[Nat.mul_one]at p2
     refine .same hs ?_ (.string _)
     have:=run_bytesToString (P:=P) w ⟨L.r,o2,none⟩ n c2 ns p2
     simp only[convert,Sem.run_bind,run_und w hu1,run_und w hu2,run_und w hu3,Result.andThen_ok]
     rw[this,push_all]
     show Result.ok (Value.string ⟨#[]++_⟩) w=_
     rw[Array.empty_append]
   cases h
  cases h
 ·rename_i t b o hu1 hu2
  split at h
  ·rename_i n c e row own kin hn hB
   cases hlt:Nat.blt o c.length with
   |false=>rw[hlt]at h;cases h
   |true =>
    rw[hlt]at h
    simp only[cond_true,Option.some.injEq,Prod.mk.injEq]at h
    obtain⟨rfl,rfl⟩:=h
    have hlt:=nblt_tt hlt
    cases hx with
    |ptr hb =>
     rename_i L
     obtain⟨arr,e',fz,h1,h2,h3,h4,h5⟩:=hs.blk _ _ _ hb hB
     obtain⟨i,hi,hsz⟩:=szOf_info hn
     obtain⟨v',hv',_⟩:=h3 o _ (List.getElem?_eq_getElem hlt)
     have hoff:=(Array.getElem?_eq_some_iff.1 hv').1
     exact .same hs (Lib.run_to_unsafe w ⟨L.r,o+L.d,none⟩ hu1 hu2 hi (by rw[hsz];exact Nat.succ_ne_zero _) (shape_of h1) (by show o+L.d<arr.size;omega)) (.ptr hb)
  cases h
 ·rename_i u b o hu1 hu2
  split at h
  ·rename_i n c e own kin hn hB
   cases hlt:(!(Nat.beq e 0)&&liesAt P P.depth e (c.length/P.cellsOf e) o u 1)with
   |false=>rw[hlt]at h;cases h
   |true =>
    rw[hlt]at h
    simp only[cond_true,Option.some.injEq,Prod.mk.injEq]at h
    obtain⟨rfl,rfl⟩:=h
    simp only[Bool.and_eq_true,Bool.not_eq_true']at hlt
    have he0:e≠0:=fun e0=>by rw[e0]at hlt;exact absurd hlt.1 (by simp[Nat.beq_refl])
    cases hx with
    |ptr hb =>
     rename_i L
     obtain⟨arr,e',fz,h1,h2,h3,h4,h5,h6,h7⟩:=hs.blk _ _ _ hb hB
     obtain⟨i,hi,hsz⟩:=szOf_info hn
     obtain⟨_,hd,htot⟩:=h6 rfl
     have he:=h7 (.inr rfl) he0
     subst he
     exact .same hs (Lib.run_from_unsafe w ⟨L.r,o+L.d,none⟩ hu1 hu2 hi (shape_of h1) (by rw[hd,h2,htot,Nat.add_zero];exact hlt.2)) (.ptr hb)
  cases h
 cases h
theorem clear_sound{ρ:Rmap}{S S':St}{w:World}(hs:Sim P w0 ρ S w){ty:TypeId}{ts:Array TypeId}{x x' v:Value}(h:clearV P ts.toList x S=some (v,S'))(hx:VR ρ x x') :
  OpGood P w0 ρ v S' ((Builtin.clear_ ts ty #[x']).run P w):=by
 unfold clearV at h
 split at h
 case h_2=>cases h
 rename_i t rest hts
 have ht0:ts[0]?=some t:=by rw[←Array.getElem?_toList,hts];rfl
 split at h
 case h_2=>cases h
 rename_i elem base n c hu
 cases hn:Nat.beq n 0 with
 |true =>
  rw[hn]at h
  simp only[cond_true,Option.some.injEq,Prod.mk.injEq]at h
  obtain⟨rfl,rfl⟩:=h
  have hn0:=of_nbeq hn
  subst hn0
  refine .same hs ?_ (VR.tuple' (l:=[]) (l':=[]) VRs.nil)
  cases hx<;>simp[Builtin.clear_,ht0,run_und w hu]
 |false =>
  rw[hn]at h
  simp only[cond_false]at h
  split at h
  case h_2=>cases h
  rename_i b o z hz
  split at h
  case h_2=>cases h
  rename_i S1 hw
  simp only[Option.some.injEq,Prod.mk.injEq]at h
  obtain⟨rfl,rfl⟩:=h
  cases hx with
  |slice hb hnc hc hr ho =>
   rename_i o' c' L
   have hnz:n≠0:=fun e=>by subst e;cases hn
   have ho':o'=o+L.d:=by
    rcases ho with ho|ho
    ·exact ho
    omega
   subst ho'
   have hzv:=zeros_vr (ρ:=ρ) hz n (n*z.cells.size) rfl
   obtain⟨w',a1,a2⟩:=write_sound hs hb hw hzv
   refine⟨ρ,_,w',?_,Ext.refl _,VR.tuple' (l:=[]) (l':=[]) VRs.nil,a2⟩
   obtain⟨m,rfl⟩:∃m,n=m+1:=⟨n-1,by omega⟩
   have a1':(storeCells ⟨L.r,o+L.d,none⟩ (Builtin.zeroCells z.cells (m+1)).toList).run P w= .ok () w':=a1
   simp[Builtin.clear_,ht0,run_und w hu,run_zero w hz,a1']
theorem copy_sound{ρ:Rmap}{S S':St}{w:World}(hs:Sim P w0 ρ S w){ty:TypeId}{ts:Array TypeId}{d d' x x' v:Value}(h:copyV P ts.toList d x S=some (v,S'))(hd:VR ρ d d')(hx:VR ρ x x') :
  OpGood P w0 ρ v S' ((Builtin.copy_ ts ty #[d',x']).run P w):=by
 unfold copyV at h
 split at h
 ·rename_i dT rest hts
  have ht0:ts[0]?=some dT:=by rw[←Array.getElem?_toList,hts];rfl
  split at h
  ·rename_i elem base dLen dCap xn hu hlen
   split at h
   ·rename_i size hsz
    split at h
    ·rename_i new hnew
     have hl:=lenOf_sound hlen hx w (P:=P)
     obtain⟨l',p,q⟩:=source_sound hs hnew hx (fun k hk=>by rw[hlen]at hk;cases hk;exact Nat.min_le_left _ _)
     cases hd with
     |snil =>
      simp only[Option.some.injEq,Prod.mk.injEq]at h
      obtain⟨rfl,rfl⟩:=h
      refine .same hs ?_ (.int _ _)
      have e0:Nat.min xn 0=0:=Nat.min_zero xn
      rw[e0]at p
      simp[Builtin.copy_,ht0,run_und w hu,hl,run_size w hsz,p,goInt]
     |szero b o k a=>cases h
     |slice hb hnc hcc hr ho =>
      rename_i b o c' o' L
      simp only at h
      cases hz:Nat.beq new.length 0 with
      |true =>
       rw[hz]at h
       simp only[cond_true,Option.some.injEq,Prod.mk.injEq]at h
       obtain⟨rfl,rfl⟩:=h
       have hn0:new= []:=List.length_eq_zero_iff.1 (of_nbeq hz)
       subst hn0
       cases q.nil_inv
       refine .same hs ?_ (.int _ _)
       simp[Builtin.copy_,ht0,run_und w hu,hl,run_size w hsz,p,goInt,storeCells]
      |false =>
       rw[hz]at h
       simp only[cond_false]at h
       split at h
       ·rename_i S1 hw
        simp only[Option.some.injEq,Prod.mk.injEq]at h
        obtain⟨rfl,rfl⟩:=h
        have hpos:0<dLen:=by
         rcases Nat.eq_zero_or_pos dLen with e0|e0
         ·subst e0
          exfalso
          have:new.length=0:=by
           unfold sourceCells at hnew
           have e0:Nat.min xn 0=0:=Nat.min_zero xn
           rw[e0]at hnew
           split at hnew
           ·simp[Nat.beq]at hnew;simp[hnew]
           ·unfold readCells at hnew
            split at hnew
            ·rw[Nat.zero_mul]at hnew;simp[takeN]at hnew;simp[←hnew]
            cases hnew
           ·simp[Nat.beq]at hnew;simp[hnew]
           ·cases hb1:Nat.beq size 1 with
            |false=>rw[hb1]at hnew;cases hnew
            |true=>rw[hb1]at hnew;simp[takeN]at hnew;simp[←hnew]
           cases hnew
          rw[this]at hz
          cases hz
         exact e0
        rcases ho with ho|ho
        ·subst ho
         obtain⟨w',a1,a2⟩:=write_sound hs hb hw q
         refine⟨ρ,_,w',?_,Ext.refl _,.int .i64 _,a2⟩
         simp[Builtin.copy_,ht0,run_und w hu,hl,run_size w hsz,p,goInt,a1]
        omega
       cases h
     |_=>cases h
    cases h
   cases h
  cases h
 cases h
theorem freeze_put{w:World}{r o n:Nat}{arr:Array Value}{e:TypeId}{fz:Nat×Nat}(h:w.heap[r]?=some (.cells arr e fz))(hn:n≠0):∃fz',WPut r (.cells arr e fz') w (w.freeze ⟨r,o,none⟩ n):=by
 have hlt:=(Array.getElem?_eq_some_iff.1 h).1
 obtain⟨lo,hi⟩:=fz
 refine⟨(if lo==hi then(o,o+n)else(min lo o,max hi (o+n))),?_⟩
 unfold World.freeze
 rw[if_neg hn]
 refine⟨fun k hk=>?_,?_,by simp,rfl,rfl⟩
 ·simp only[Array.getElem?_modify]
  rw[if_neg (fun e=>hk e.symm)]
 simp only[Array.getElem?_modify,h,Option.map_some,if_true]
theorem loadBytes_any{w:World}{g:Nat}:∀(ns:List Int) (o:Nat) (acc:ByteArray),(∀j n,ns[j]?=some n→w.cell? ⟨g,o+j,none⟩=some (.int .u8 n))→(loadBytes ⟨g,o,none⟩ acc ns.length).run P w= .ok ⟨acc.data++(ns.map (fun n=>UInt8.ofNat n.toNat)).toArray⟩ w
 | [],o,acc,_=>by simp[loadBytes]
 |n::ns,o,acc,h=>by
  have h0:w.cell? ⟨g,o,none⟩=some (.int .u8 n):=h 0 n rfl
  have ih:=loadBytes_any ns (o+1) (acc.push n.toNat.toUInt8) (fun j y hy=>by
   have:=h (j+1) y (by simpa using hy)
   rw[show o+1+j=o+(j+1) by omega]
   exact this)
  have hd:(acc.push n.toNat.toUInt8).data=acc.data.push n.toNat.toUInt8:=rfl
  rw[hd]at ih
  have hl:(load ⟨g,o,none⟩).run P w= .ok (.int .u8 n) w:=by simp[load,Sem.run,h0]
  simp only[List.length_cons,loadBytes,Sem.run_bind,hl,Result.andThen_ok,Addr.add_lit]
  rw[ih]
  congr 2
  simp[Nat.toUInt8]
theorem run_unsafeString_at(w:World)(pt it ty e:TypeId)(hp:P.underlying pt=some (.pointer e))(hc:P.cellsOf e=1)(g o cells:Nat)(hsh:w.shape? g=some (e,cells))(ns:List Int)(h0:ns≠[])(hn:o+ns.length≤cells)(h63:ns.length≤9223372036854775807)
  (hcell:∀j n,ns[j]?=some n→w.cell? ⟨g,o+j,none⟩=some (.int .u8 n)) :
  (Builtin.unsafeString_ #[pt,it] ty #[.pointer (some ⟨g,o,none⟩),.int .i64 ns.length]).run P w= .ok (.string ⟨(ns.map (fun n=>UInt8.ofNat n.toNat)).toArray⟩) (w.freeze ⟨g,o,none⟩ ns.length):=by
 have hl:ns.length≠0:=by simpa using h0
 have hlb:=loadBytes_any (P:=P) ns o .empty hcell
 have hlies:=liesAt_row (P:=P) hc (cells/P.cellsOf e) o ns.length (by rw[hc];simpa using hn)
 have h63':¬(9223372036854775807:Int)<(ns.length:Int):=by omega
 have hdef:Builtin.unsafeString_ #[pt,it] ty #[.pointer (some ⟨g,o,none⟩),.int .i64 ns.length] =
   (do
    let n ←asInt (.int .i64 ns.length)
    if n<0 then runtimePanic (.error "unsafe.String: len out of range")
    if n>IntKind.i64.max then unsupported (.unsafePointer "String: a length above the largest int")
    if n=0 then pure (.string .empty)
    else if ←variablesAt ⟨g,o,none⟩ (←elemOf pt) n.toNat then do
     let s ←loadBytes ⟨g,o,none⟩ .empty n.toNat
     freeze ⟨g,o,none⟩ n.toNat
     pure (.string s)
    else unsupported (.unsafePointer "String: not so many bytes at ptr")):=rfl
 rw[hdef]
 have hmax:IntKind.i64.max=9223372036854775807:=rfl
 have hneg:¬(ns.length:Int)<0:=by omega
 simp[asInt,asIntOf,hmax,h63',hneg,hl,variablesAt,hsh,elemOf,run_und w hp,hlies,hlb]
theorem unsafeString_sound{ρ:Rmap}{S S':St}{w:World}(hs:Sim P w0 ρ S w){ty:TypeId}{ts:Array TypeId}{p p' v:Value}{i:Int}(h:unsafeStringV P ts.toList p i S=some (v,S'))(hp:VR ρ p p') :
  OpGood P w0 ρ v S' ((Builtin.unsafeString_ ts ty #[p',.int .i64 i]).run P w):=by
 unfold unsafeStringV at h
 split at h
 ·rename_i pt it a hts
  have ht:ts= #[pt,it]:=by apply Array.ext';simpa using hts
  subst ht
  split at h
  ·cases h
   have hpp:∃a',p'= .pointer a':=by cases hp<;>exact⟨_,rfl⟩
   obtain⟨a',rfl⟩:=hpp
   exact .same hs (Lib.run_unsafeString_none w pt it ty a') (.string _)
  ·rename_i m
   split at h
   ·rename_i b o
    split at h
    ·rename_i t c e kin hu hB
     cases hc:(Nat.beq t e&&!(Nat.beq e 0)&&Nat.beq (P.cellsOf e) 1&&Nat.blt m 1000000)with
     |false=>rw[hc]at h;cases h
     |true =>
      rw[hc]at h
      simp only[cond_true]at h
      simp only[Bool.and_eq_true,Bool.not_eq_true']at hc
      obtain⟨⟨⟨h1,h2⟩,h3⟩,h4⟩:=hc
      have hte:=of_nbeq h1
      subst hte
      have he0:t≠0:=fun e0=>by rw[e0]at h2;exact absurd h2 (by simp[Nat.beq_refl])
      have hm:=nblt_tt h4
      split at h
      ·rename_i l hl
       split at h
       ·rename_i bs hbs
        cases h
        cases hp with
        |ptr hb =>
         rename_i L
         obtain⟨arr,e',fz,g1,g2,g3,g4,g5⟩:=hs.blk _ _ _ hb hB
         have hee:=g5.2.2 (.inl rfl) he0
         subst hee
         obtain⟨l1,l2,l3⟩:=takeN_spec _ _ _ hl
         rw[dropN_eq]at l2 l3
         have hall:∀j v,l[j]?=some v→∃v',arr[L.d+o+j]?=some v'∧VR ρ v v':=by
          intro j v hv
          rw[l3,List.getElem?_take,List.getElem?_drop]at hv
          split at hv
          ·obtain⟨v',x1,x2⟩:=g3 _ _ hv
           exact⟨v',by rw[Nat.add_assoc];exact x1,x2⟩
          cases hv
         have hvr:VRs ρ l ((arr.toList.drop (L.d+o)).take (m+1)):=by
          have hlen:L.d+o+(m+1)≤arr.size:=by
           obtain⟨v',x1,_⟩:=hall m _ (List.getElem?_eq_getElem (by omega))
           have:=(Array.getElem?_eq_some_iff.1 x1).1
           omega
          refine⟨by simp;omega,fun j v v' hv hv'=>?_⟩
          obtain⟨u,x1,x2⟩:=hall j v hv
          rw[List.getElem?_take,List.getElem?_drop,Array.getElem?_toList]at hv'
          split at hv'
          ·rw[x1]at hv';cases hv';exact x2
          cases hv'
         obtain⟨ns,e1,e2⟩:=bytes_vr _ _ _ hbs hvr
         have hnl:ns.length=m+1:=by
          have:=congrArg List.length e1
          rw[←hvr.1]at this
          simp at this;omega
         have hcell:∀j n,ns[j]?=some n→w.cell? ⟨L.r,o+L.d+j,none⟩=some (.int .u8 n):=by
          intro j n hj
          have:((arr.toList.drop (L.d+o)).take (m+1))[j]?=some (.int .u8 n):=by rw[e1];simp[hj]
          rw[List.getElem?_take,List.getElem?_drop,Array.getElem?_toList]at this
          split at this
          ·unfold World.cell?
           simp only[g1]
           rw[show o+L.d+j=L.d+o+j by omega]
           exact this
          cases this
         have hsz:o+L.d+ns.length≤arr.size:=by
          obtain⟨v',x1,_⟩:=hall m _ (List.getElem?_eq_getElem (by omega))
          have:=(Array.getElem?_eq_some_iff.1 x1).1
          omega
         have hrun:=run_unsafeString_at (P:=P) w pt it ty _ hu (of_nbeq h3) L.r (o+L.d) arr.size (shape_of g1) ns (by intro e;rw[e]at hnl;simp at hnl) hsz (by omega) hcell
         obtain⟨fz',hput⟩:=freeze_put (o:=o+L.d) (n:=ns.length) g1 (by omega)
         have hp2:=hs.put (B:= .cells c _ true true kin) (B':= .cells c _ true false []) hb hB rfl hput ⟨arr,_,fz',rfl,g2,g3,(fun h=>nomatch h),g5.1,g5.2.1,fun _ _=>rfl⟩
         rw[hnl]at hrun
         refine⟨ρ,_,_,hrun,Ext.refl _,?_,?_⟩
         ·rw[←e2];exact .string _
         rw[hnl]at hp2
         exact hp2
       cases h
      cases h
    cases h
   cases h
  cases h
 cases h
set_option maxHeartbeats 8000000 in
theorem real_zeros{ts:Array TypeId}{sT xT ty elem:TypeId}{k kx:IntKind}{size n:Nat}{w:World}(h0:ts[0]?=some sT)(h1:ts[1]?=some xT)(hu:P.underlying sT=some (.slice elem))
  (hx:P.underlying xT=some (.int kx))(hsz:szOf P elem=some size){i:TypeInfo}{z:Value}(hi:P.info? elem=some i)(hz:zeroV P elem=some z)(hb:i.bytes≤1024)(hb0:0<i.bytes)(hm:n≤maxNeed)(hn:0<n)(hs0:0<size) :
  ∃cap',n≤cap'∧(Builtin.append_ ts ty #[.slice none 0 0,.int k (Int.ofNat n)]).run P w =
   .ok (.slice (some ⟨w.heap.size,0,none⟩) n cap') (w.drew.alloc (.cells (Builtin.zeroCells z.cells n++Builtin.zeroCells z.cells (cap'-n)) elem)):=by
 have g1:=grow_room (need:=n) (cap:=0) (bytes:=i.bytes) hn hm hb
 have hm':n≤1073741824:=hm
 have g2:¬(9223372036854775807<(n:Int)):=by omega
 have g3:i.bytes≠0:=by omega
 have g4:IntKind.i64.wrap ((n:Nat):Int)=(n:Int):=by
  rw[IntKind.wrap_i64]
  omega
 have g5:¬(n:Int)<0:=by omega
 have g6:¬(281474976710656<(n:Int)*(i.bytes:Int)):=by
  have:n*i.bytes≤1073741824*1024:=Nat.mul_le_mul hm' hb
  have h2:(n:Int)*(i.bytes:Int)=((n*i.bytes:Nat):Int):=by rw[Int.natCast_mul]
  omega
 have g7:¬(n=0∨size=0):=by omega
 have g8:n≠0:=by omega
 refine⟨(Question.appendCap n 0 elem).cut (w.tape w.drawn (.appendCap n 0 elem)),by simp[Question.cut],?_⟩
 have hz':=run_zero w.drew hz
 simp[Builtin.append_,h0,h1,run_und w hu,run_und w hx,run_size w hsz,asInt,asIntOf,g4,g5,g6,g8,run_info w hi,run_info w.drew hi,g1,g2,Question.forced,hz',newRow,Builtin.firstCells]
 intro h9
 exact absurd (Nat.mul_eq_zero.1 h9) g7
theorem appendZ_sound{ρ:Rmap}{S S':St}{w:World}(hs:Sim P w0 ρ S w){ts:Array TypeId}{ty:TypeId}{s s' x x' v:Value}(h:appendZV P ts.toList s x S=some (v,S'))(hsv:VR ρ s s')(hx:VR ρ x x') :
  OpGood P w0 ρ v S' ((Builtin.append_ ts ty #[s',x']).run P w):=by
 unfold appendZV at h
 split at h
 ·rename_i sT xT rest k n hts
  have ht0:ts[0]?=some sT:=by rw[←Array.getElem?_toList,hts];rfl
  have ht1:ts[1]?=some xT:=by rw[←Array.getElem?_toList,hts];rfl
  split at h
  ·rename_i elem kx hu hxu
   split at h
   ·rename_i size z0 hsz hz0
    cases hg:(Nat.blt 0 n&&growOk P elem size n)with
    |false=>rw[hg]at h;cases h
    |true =>
     rw[hg]at h
     simp only[cond_true,Option.some.injEq]at h
     rw[Bool.and_eq_true]at hg
     obtain⟨ei,z,hei,hz,hb1,hb2,hmx,hzs,hsp⟩:=growOk_spec hg.2
     rw[hz0]at hz
     cases hz
     cases hsv;cases hx
     have hn:=nblt_tt hg.1
     obtain⟨cap',hc',hrun⟩:=real_zeros (P:=P) (ty:=ty) (k:=k) (w:=w) ht0 ht1 hu hxu hsz hei hz0 hb1 hb2 hmx hn hsp
     have hzv:=zeros_vr (ρ:=ρ) hz0 n (n*z0.cells.size) rfl
     have hzc:z0.cells.size=size:=hzs
     have e1:newSlice S (replL n (cellsL z0)) elem n n=(v,S'):=h
     obtain⟨ρ',b1,b2,b3⟩:=new_row hs.drew (c:=replL n (cellsL z0)) (arr:=(Builtin.zeroCells z0.cells n++Builtin.zeroCells z0.cells (cap'-n))) (e:=elem) (e':=elem) (z:=size) (fun i y hy=>by
      obtain⟨y',p1,p2⟩:=hzv.get hy
      refine⟨y',?_,p2⟩
      have hi:=(List.getElem?_eq_some_iff.1 p1).1
      have h3:(Builtin.zeroCells z0.cells n)[i]?=some y':=by rw[←Array.getElem?_toList];exact p1
      rw[Array.getElem?_append_left (Array.getElem?_eq_some_iff.1 h3).1]
      exact h3) (fun _=>rfl) hsz (n:=n) (k:=n) (k':=cap') (Nat.le_refl _) hc' (fun _=>by
       simp only[Array.size_append,size_zeroCells,hzc]
       have:cap'*size=n*size+(cap'-n)*size:=by rw[←Nat.add_mul];congr 1;omega
       omega)
     rw[e1]at b2 b3
     exact⟨ρ',_,_,hrun,b1,b3,b2⟩
   cases h
  cases h
 cases h
theorem ext_add'{ρ:Rmap}{S:St}{w:World}(hs:Sim P w0 ρ S w){b:Nat}{L M:Loc}(hb:ρ b=some L):upd ρ S.size M b=some L:=by
 unfold upd
 have:=(hs.dom b L hb).1
 rw[if_neg (by omega)]
 exact hb
theorem rangeM_sound{ρ:Rmap}{S S':St}{w:World}(hs:Sim P w0 ρ S w){t:TypeId}{x x' v:Value}(h:rangeMV P t x S=some (v,S'))(hx:VR ρ x x'):OpGood P w0 ρ v S' ((Instr.range t x').run P w):=by
 unfold rangeMV at h
 split at h
 ·rename_i key elem r hu
  split at h
  ·rename_i clock hB
   cases h
   cases hx with
   |map hb =>
    rename_i L
    obtain⟨es',h1,h2⟩:=hs.blk _ _ _ hb hB
    obtain⟨a,b⟩:=hs.add (B:= .mapIt r) (o:= .mapIter (some L.r) clock #[] clock) (L:=⟨w.heap.size,0,0,0⟩) rfl ⟨L,clock,clock,ext_add' hs hb,rfl,rfl⟩
    refine⟨_,.pointer (some ⟨w.heap.size,0,none⟩),_,?_,a,VR.ptr (L:=⟨w.heap.size,0,0,0⟩) (upd_same _ _ _),b⟩
    have hg:(getObj L.r).run P w= .ok (.map es'.toArray clock) w:=by simp[getObj,Sem.run,h1]
    simp[Instr.range,run_und w hu,hg]
  cases h
 cases h
theorem nextM_sound{ρ:Rmap}{S S':St}{w:World}(hs:Sim P w0 ρ S w){ty:TypeId}{b:Bool}{x x' v:Value}(h:nextMV x b S=some (v,S'))(hx:VR ρ x x'):OpGood P w0 ρ v S' ((Instr.next x' b ty).run P w):=by
 unfold nextMV at h
 split at h
 ·rename_i r
  split at h
  ·rename_i m hB
   split at h
   ·rename_i clock hM
    cases h
    cases hx with
    |ptr hb =>
     rename_i L
     obtain⟨M,since,last,hm,hLd,ho⟩:=hs.blk _ _ _ hb hB
     obtain⟨es',h1,h2⟩:=hs.blk _ _ _ hm hM
     have he:es'= []:=List.length_eq_zero_iff.1 h2.1.symm
     subst he
     have hg1:(getObj L.r).run P w= .ok (.mapIter (some M.r) since #[] last) w:=by simp[getObj,Sem.run,ho]
     have hg2:(getObj M.r).run P w= .ok (.map #[] clock) w:=by simp[getObj,Sem.run,h1]
     refine⟨ρ,.tuple #[.bool false],w,?_,Ext.refl _,VR.tuple' (VRs.cons (.bool false) VRs.nil),hs⟩
     rw[hLd]
     have hf:(Question.mapNext 1).forced=true:=rfl
     simp[Instr.next,hg1,hg2,hf]
   cases h
  cases h
 cases h
end Go.Cm
namespace Go.Cm
open Go
variable{P:Program}{w0:Base}
theorem run_builtin{o:Oper}(g:Operand→Value){b:Builtin}{args:Array Operand}{ts:Array TypeId}(ho:o.op= .call {callee:= .builtin b,args:=args,argTypes:=ts})(w:World) :
  ∃cs,(execOp g o).run P w=(builtin b ts o.type cs (args.map g)).run P w:=by
 simp only[execOp,ho,resolve,invoke,Sem.run_bind,Sem.run_pure]
 exact⟨_,rfl⟩
theorem arr_one{args:Array Operand}{x:Operand}(h:args.toList= [x]):args= #[x]:=by
 apply Array.ext';simpa using h
theorem read_sound{ρ:Rmap}{S:St}{w:World}(hs:Sim P w0 ρ S w){o:Oper}{f g:Operand→Value}(hev:∀x,x∈o.op.operands→VR ρ (f x) (g x)){v:Value}(h:readOp P f o.op S=some v) :
  ∃v',(execOp g o).run P w= .ok (.value v') w∧VR ρ v v':=by
 generalize ho:o.op=op at h hev
 unfold readOp at h
 split at h
 ·rename_i t a
  obtain⟨v',p,q⟩:=load_sound hs h (hev a (by simp[Op.operands]))
  exact⟨v',by simp[execOp,ho,p],q⟩
 ·rename_i t x lo hi mx
  obtain⟨v',p,q⟩:=slice_sound hs h (hev x (by simp[Op.operands])) (OptR.map fun o e=>hev o (by subst e;simp[Op.operands])) (OptR.map fun o e=>hev o (by subst e;simp[Op.operands])) (OptR.map fun o e=>hev o (by subst e;simp[Op.operands]))
  exact⟨v',by simp[execOp,ho,p],q⟩
 ·rename_i t x i ok
  obtain⟨v',p,q⟩:=lookup_sound hs h (hev x (by simp[Op.operands])) (hev i (by simp[Op.operands]))
  exact⟨v',by simp[execOp,ho,p],q⟩
 ·rename_i args ts
  split at h
  ·rename_i x t rest ha ht
   have ha':=arr_one ha
   subst ha'
   have ht0:ts[0]?=some t:=by rw[←Array.getElem?_toList,ht];rfl
   obtain⟨p,q⟩:=len_sound (ty:=o.type) hs h (hev x (by simp[Op.operands,Call.operands])) ht0
   refine⟨v,?_,q.refl ρ⟩
   obtain⟨cs,e⟩:=run_builtin (P:=P) g ho w
   rw[e]
   simp[builtin,p]
  cases h
 subst ho
 exact pure_sound hev h w
def NextGood(P:Program)(w0:Base)(ρ:Rmap)(v:Value)(S':St)(r:Result Next):Prop :=
 ∃ρ' v' w',(r= .ok (.value v') w'∨(r= .ok .skip w'∧v'=undef))∧Ext ρ ρ'∧VR ρ' v v'∧Sim P w0 ρ' S' w'
theorem NextGood.of_op{ρ:Rmap}{v:Value}{S':St}{s:Sem Value}{w:World}(h:OpGood P w0 ρ v S' (s.run P w)){r:Result Next}(hr:r=((do pure (Next.value (←s)):Sem Next)).run P w):NextGood P w0 ρ v S' r:=by
 obtain⟨ρ',v',w',a,b,c,d⟩:=h
 refine⟨ρ',v',w',.inl ?_,b,c,d⟩
 rw[hr,Sem.run_bind,a];rfl
theorem NextGood.of_unit{ρ:Rmap}{S':St}{s:Sem Unit}{w w':World}(h:s.run P w= .ok () w')(hs:Sim P w0 ρ S' w'){r:Result Next}(hr:r=((do s;pure Next.skip:Sem Next)).run P w):NextGood P w0 ρ undef S' r:=by
 refine⟨ρ,undef,w',.inr ⟨?_,rfl⟩,Ext.refl _,VR.undef _,hs⟩
 rw[hr,Sem.run_bind,h];rfl
theorem parts_vr{ρ:Rmap}{f g:Operand→Value}{parts:Array (Nat×Operand)}(h:∀x,x∈(parts.toList.map (·.2)).toArray→VR ρ (f x) (g x)):PartsR ρ (partsV f parts.toList) (parts.map fun(i,x)=>(i,g x)).toList:=by
 refine⟨by simp[partsV],?_⟩
 simp only[partsV,List.map_map,Array.toList_map]
 have:=VRs.mapOps (ρ:=ρ) (f:=f) (g:=g) (parts.toList.map (·.2)) (fun x hx=>h x (by simpa using hx))
 simpa [List.map_map,Function.comp_def]using this
theorem new_sound{ρ:Rmap}{S S':St}{w:World}(hs:Sim P w0 ρ S w){o:Oper}{f g:Operand→Value}(hev:∀x,x∈o.op.operands→VR ρ (f x) (g x)){v:Value}(h:newOp P f o.op S=some (v,S')) :
  NextGood P w0 ρ v S' ((execOp g o).run P w):=by
 cases ho:o.op<;>rw[ho]at h hev
 case alloc e =>
  simp only[newOp]at h
  split at h
  ·rename_i z hz
   cases h
   exact .of_op (alloc_sound hs hz) (by simp only[execOp,ho])
  cases h
 case box e x =>
  simp only[newOp]at h
  cases h
  exact .of_op (box_sound hs (hev x (by simp[Op.operands]))) (by simp only[execOp,ho])
 case buildSlice t len parts =>
  exact .of_op (buildSlice_sound hs h (parts_vr (by simpa [Op.operands]using hev))) (by simp only[execOp,ho])
 case makeMap t r =>
  cases r with
  |some x=>simp[newOp]at h
  |none =>
   simp only[newOp]at h
   cases h
   obtain⟨ρ',a,b,c⟩:=newMap_sound hs
   exact⟨ρ',_,_,.inl (by simp[execOp,ho,Instr.makeMap]),a,b,c⟩
 all_goals simp[newOp]at h
end Go.Cm
namespace Go.Cm
open Go
variable{P:Program}{w0:Base}
theorem OpGood.of_same{ρ:Rmap}{S:St}{w:World}{v v':Value}{s:Sem Value}(hs:Sim P w0 ρ S w)(h:s.run P w= .ok v' w)(hv:VR ρ v v'):OpGood P w0 ρ v S (s.run P w) :=
 ⟨ρ,v',w,h,Ext.refl _,hv,hs⟩
theorem args_vr{ρ:Rmap}{f g:Operand→Value}{args:Array Operand}(h:∀x,x∈args→VR ρ (f x) (g x)):VRs ρ (args.toList.map f) (args.map g).toList:=by
 rw[Array.toList_map]
 exact VRs.mapOps args.toList fun x hx=>h x (by simpa using hx)
theorem builtin_sound{ρ:Rmap}{S S':St}{w:World}(hs:Sim P w0 ρ S w){o:Oper}{f g:Operand→Value}{b:Builtin}{args:Array Operand}{ts:Array TypeId}
  (ho:o.op= .call {callee:= .builtin b,args:=args,argTypes:=ts})(hev:∀x,x∈args→VR ρ (f x) (g x)){v:Value}(h:builtinV P b ts.toList (args.toList.map f) S=some (v,S')) :
  NextGood P w0 ρ v S' ((execOp g o).run P w):=by
 obtain⟨cs,e⟩:=run_builtin (P:=P) g ho w
 rw[e]
 have hv:=args_vr hev
 generalize ha:args.toList.map f=l at h hv
 generalize hg:args.map g=ga at hv e ⊢
 unfold builtinV at h
 split at h
 ·rename_i x
  split at h
  ·rename_i t rest hts
   obtain⟨x',r',hg',hx,hr⟩:=hv.cons_inv
   cases hr.nil_inv
   have hga:ga= #[x']:=by apply Array.ext';simpa using hg'
   subst hga
   have ht0:ts[0]?=some t:=by rw[←Array.getElem?_toList,hts];rfl
   cases hl:lenV P t x S with
   |none=>rw[hl]at h;cases h
   |some u =>
    rw[hl]at h
    cases h
    obtain⟨p,q⟩:=len_sound (ty:=o.type) hs hl hx ht0
    exact .of_op (.of_same hs p (q.refl ρ)) (by simp[builtin])
  cases h
 ·rename_i s x
  obtain⟨s',r',hg',hsv,hr⟩:=hv.cons_inv
  obtain⟨x',r'',rfl,hx,hr'⟩:=hr.cons_inv
  cases hr'.nil_inv
  have hga:ga= #[s',x']:=by apply Array.ext';simpa using hg'
  subst hga
  split at h
  ·rename_i r hr1
   obtain⟨v1,S1⟩:=r
   cases h
   exact .of_op (append_sound (ty:=o.type) hs hr1 hsv hx) (by simp[builtin])
  exact .of_op (appendZ_sound (ty:=o.type) hs h hsv hx) (by simp[builtin])
 ·rename_i x r
  obtain⟨x',r',hg',hx,hr⟩:=hv.cons_inv
  cases hm:minmaxV false x r with
  |none=>rw[hm]at h;cases h
  |some u =>
   rw[hm]at h
   cases h
   obtain⟨v',p,q⟩:=minmax_sound (P:=P) (ty:=o.type) (ts:=ts) r r' x x' _ hm hx hr w
   exact .of_op (s:=Builtin.min_ ts o.type ga) (.of_same hs (by unfold Builtin.min_;rw[hg'];simpa using p) q) (by simp[builtin])
 ·rename_i x r
  obtain⟨x',r',hg',hx,hr⟩:=hv.cons_inv
  cases hm:minmaxV true x r with
  |none=>rw[hm]at h;cases h
  |some u =>
   rw[hm]at h
   cases h
   obtain⟨v',p,q⟩:=minmax_sound (P:=P) (ty:=o.type) (ts:=ts) r r' x x' _ hm hx hr w
   exact .of_op (s:=Builtin.max_ ts o.type ga) (.of_same hs (by unfold Builtin.max_;rw[hg'];simpa using p) q) (by simp[builtin])
 ·rename_i s x
  obtain⟨s',r',hg',hsv,hr⟩:=hv.cons_inv
  obtain⟨x',r'',rfl,hx,hr'⟩:=hr.cons_inv
  cases hr'.nil_inv
  have hga:ga= #[s',x']:=by apply Array.ext';simpa using hg'
  subst hga
  exact .of_op (copy_sound (ty:=o.type) hs h hsv hx) (by simp[builtin])
 ·rename_i x
  obtain⟨x',r',hg',hx,hr⟩:=hv.cons_inv
  cases hr.nil_inv
  have hga:ga= #[x']:=by apply Array.ext';simpa using hg'
  subst hga
  exact .of_op (clear_sound (ty:=o.type) hs h hx) (by simp[builtin])
 ·rename_i x
  split at h
  ·rename_i t rest hts
   split at h
   ·rename_i e hu
    cases h
    obtain⟨x',r',hg',hx,hr⟩:=hv.cons_inv
    cases hr.nil_inv
    have hga:ga= #[x']:=by apply Array.ext';simpa using hg'
    subst hga
    have ht0:ts[0]?=some t:=by rw[←Array.getElem?_toList,hts];rfl
    cases hx
    exact .of_op (s:=Builtin.cap_ ts o.type #[.slice none 0 0]) (.of_same hs (by simp[Builtin.cap_,ht0,run_und w hu,goInt]) (.int _ _)) (by simp[builtin])
   cases h
  cases h
 ·rename_i x
  split at h
  ·cases h
   obtain⟨x',r',hg',hx,hr⟩:=hv.cons_inv
   cases hr.nil_inv
   have hga:ga= #[x']:=by apply Array.ext';simpa using hg'
   subst hga
   cases hx
   exact .of_op (s:=Builtin.unsafeSliceData_ ts o.type #[.slice none 0 0]) (.of_same hs rfl .pnil) (by simp[builtin])
  ·rename_i b oo n c
   cases h
   obtain⟨x',r',hg',hx,hr⟩:=hv.cons_inv
   cases hr.nil_inv
   have hga:ga= #[x']:=by apply Array.ext';simpa using hg'
   subst hga
   cases hx with
   |slice hb hn hc hr ho =>
    rename_i o' c' L
    have hc':c'≠0:=by omega
    rcases ho with ho|ho
    ·subst ho
     refine .of_op (s:=Builtin.unsafeSliceData_ ts o.type #[.slice (some ⟨L.r,oo+L.d,none⟩) n c']) (.of_same hs ?_ (.ptr hb)) (by simp[builtin])
     have:Builtin.unsafeSliceData_ ts o.type #[.slice (some ⟨L.r,oo+L.d,none⟩) n c']=(do
      if c'≠0 then pure (.pointer (some ⟨L.r,oo+L.d,none⟩))
      else if(←viewAt L.r).isSome then pure (.pointer (some ⟨L.r,oo+L.d,none⟩))
      else pure (.pointer (some ⟨←newObj (.view ⟨L.r,oo+L.d,none⟩ (←elemOf o.type)),0,none⟩))):=rfl
     rw[this,if_pos hc']
     rfl
    exact absurd ho hc'
  cases h
 ·rename_i p n
  split at h
  ·rename_i i
   obtain⟨p',r',hg',hp,hr⟩:=hv.cons_inv
   obtain⟨n',r'',rfl,hn,hr'⟩:=hr.cons_inv
   cases hr'.nil_inv
   cases hn
   have hga:ga= #[p',.int .i64 i]:=by apply Array.ext';simpa using hg'
   subst hga
   exact .of_op (unsafeString_sound (ty:=o.type) hs h hp) (by simp[builtin])
  cases h
 cases h
theorem heavy_sound{ρ:Rmap}{S S':St}{w:World}(hs:Sim P w0 ρ S w){o:Oper}{f g:Operand→Value}(hev:∀x,x∈o.op.operands→VR ρ (f x) (g x)){v:Value}(h:heavyOp P f o.op S=some (v,S')) :
  NextGood P w0 ρ v S' ((execOp g o).run P w):=by
 generalize ho:o.op=op at h hev
 unfold heavyOp at h
 split at h
 ·rename_i t a x
  split at h
  ·rename_i S1 hst
   cases h
   obtain⟨w',p,q⟩:=store_sound hs hst (hev a (by simp[Op.operands])) (hev x (by simp[Op.operands]))
   exact .of_unit p q (by simp only[execOp,ho])
  cases h
 ·rename_i s d x
  exact .of_op (conv_sound hs h (hev x (by simp[Op.operands]))) (by simp only[execOp,ho])
 ·rename_i t r
  split at h
  ·rename_i key elem k n hu hr
   cases h
   have hx:=hev r (by simp[Op.operands])
   rw[hr]at hx
   generalize hgr:g r=gr at hx
   cases hx
   obtain⟨ρ',a,b,c⟩:=newMap_sound hs
   exact⟨ρ',_,_,.inl (by simp[execOp,ho,Instr.makeMap,hgr,run_und w hu,asInt,asIntOf]),a,b,c⟩
  cases h
 ·rename_i t l c
  exact .of_op (makeSlice_sound hs h (hev l (by simp[Op.operands])) (hev c (by simp[Op.operands]))) (by simp only[execOp,ho])
 ·rename_i t x
  exact .of_op (rangeM_sound hs h (hev x (by simp[Op.operands]))) (by simp only[execOp,ho])
 ·rename_i it s
  exact .of_op (nextM_sound (ty:=o.type) hs h (hev it (by simp[Op.operands]))) (by simp only[execOp,ho])
 ·rename_i t m k x
  split at h
  ·rename_i S1 hst
   cases h
   obtain⟨w',p,q⟩:=mapUpdate_sound hs hst (hev m (by simp[Op.operands])) (hev k (by simp[Op.operands])) (hev x (by simp[Op.operands]))
   exact .of_unit p q (by simp only[execOp,ho])
  cases h
 ·rename_i t m k x
  split at h
  ·rename_i S1 hst
   cases h
   obtain⟨w',p,q⟩:=mapUpdate_sound hs hst (hev m (by simp[Op.operands])) (hev k (by simp[Op.operands])) (hev x (by simp[Op.operands]))
   exact .of_unit p q (by simp only[execOp,ho])
  cases h
 ·rename_i t m k
  exact .of_op (mapEntry_sound hs h (hev m (by simp[Op.operands])) (hev k (by simp[Op.operands]))) (by simp only[execOp,ho])
 ·rename_i t m s x
  split at h
  ·rename_i S1 hst
   cases h
   obtain⟨w',p,q⟩:=entryStore_sound (t:=t) hs hst (hev m (by simp[Op.operands])) (hev s (by simp[Op.operands])) (hev x (by simp[Op.operands]))
   exact .of_unit p q (by simp only[execOp,ho])
  cases h
 ·rename_i b args ts
  exact builtin_sound hs ho (fun x hx=>hev x (by simp[Op.operands,Call.operands];exact hx)) h
 cases h
end Go.Cm
namespace Go.Cm
open Go
variable{P:Program}{w0:Base}{K:Known}
def DefR(ρ:Rmap)(d d':Deferred):Prop :=
 (∃r L,d.target= .collected r∧ρ r=some L∧d'.target= .collected L.r) ∨
 (∃f cap cap',d.target= .fn (.func f) cap∧d'.target= .fn (.func f) cap'∧VRs ρ cap.toList cap'.toList∧VRs ρ d.args.toList d'.args.toList)
theorem DefR.mono{ρ ρ':Rmap}(e:Ext ρ ρ'){d d':Deferred}(h:DefR ρ d d'):DefR ρ' d d':=by
 rcases h with ⟨r,L,a,b,c⟩|⟨f,c,c',a,b,p,q⟩
 ·exact .inl ⟨r,L,a,e _ _ b,c⟩
 exact .inr ⟨f,c,c',a,b,p.mono e,q.mono e⟩
inductive DefsR(ρ:Rmap):List Deferred→List Deferred→Prop
 |nil:DefsR ρ [] []
 |cons {d d':Deferred} {l l':List Deferred} (h:DefR ρ d d') (k:DefsR ρ l l'):DefsR ρ (d::l) (d'::l')
theorem DefsR.mono{ρ ρ':Rmap}(e:Ext ρ ρ'){l l':List Deferred}(h:DefsR ρ l l'):DefsR ρ' l l':=by
 induction h with
 |nil=>exact .nil
 |cons h _ ih=>exact .cons (h.mono e) ih
theorem DefsR.append{ρ:Rmap}{a a' b b':List Deferred}(h:DefsR ρ a a')(k:DefsR ρ b b'):DefsR ρ (a++b) (a'++b'):=by
 induction h with
 |nil=>exact k
 |cons h _ ih=>exact .cons h ih
structure ActR(ρ:Rmap)(a:Ca)(ar:Act):Prop where
 le:a.n≤256
 tm:TmR ρ a.n a.t ar.tmps
 df:DefsR ρ a.defers ar.defers
theorem ActR.mono{ρ ρ':Rmap}(e:Ext ρ ρ'){a:Ca}{ar:Act}(h:ActR ρ a ar):ActR ρ' a ar:=⟨h.le,h.tm.mono e,h.df.mono e⟩
theorem get_eq(a:Ca)(i:Nat):a.get i=getT a.t i:=rfl
theorem ActR.get{ρ:Rmap}{a:Ca}{ar:Act}(h:ActR ρ a ar)(i:Nat):VR ρ (a.get i) (ar.tmps.getD i undef):=h.tm.2 i
theorem TmR.set{ρ:Rmap}{n:Nat}{t:Tm}{tmps:Array Value}(h:TmR ρ n t tmps){d:Nat}(hd:d<n)(hn:n≤256){v v':Value}(hv:VR ρ v v'):TmR ρ n (PT.set t d (some v)) (tmps.setIfInBounds d v'):=by
 refine⟨by simpa using h.1,fun i=>?_⟩
 have hg:getT (PT.set t d (some v)) i=if i=d then v else getT t i:=by
  unfold getT
  rw[PT.get_set_if _ _ _ (by omega)]
  by_cases e:i=d
  ·simp[e]
  simp[e]
 rw[hg,Array.getD_eq_getD_getElem?,Array.getElem?_setIfInBounds]
 by_cases e:i=d
 ·subst e
  simp[h.1,hd,hv]
 rw[if_neg e,if_neg (fun h=>e h.symm),←Array.getD_eq_getD_getElem?]
 exact h.2 i
theorem ActR.put{ρ:Rmap}{a a':Ca}{ar:Act}(h:ActR ρ a ar){dst:Option Tmp}{v v':Value}(hp:a.put dst v=some a')(hv:VR ρ v v'):ActR ρ a' (ar.put dst v'):=by
 unfold Ca.put at hp
 cases dst with
 |none=>simp at hp;subst hp;exact h
 |some d =>
  simp only at hp
  cases hb:Nat.blt d a.n with
  |false=>rw[hb]at hp;cases hp
  |true =>
   rw[hb]at hp
   simp only[cond_true,Option.some.injEq]at hp
   subst hp
   exact⟨h.le,h.tm.set (nblt_tt hb) h.le hv,h.df⟩
theorem ev_sound{ρ:Rmap}{S:St}{w:World}(hs:Sim P w0 ρ S w){a:Ca}{ar:Act}(h:ActR ρ a ar){x:Operand}(hx:(match x with
  | .const v=>flatV flatN v
  | .global g=>Nat.blt g P.globals.size
  |_=>true)=true):VR ρ (a.ev x) (ar.eval x):=by
 cases x with
 |tmp t=>exact h.get t
 |const v=>exact(flatV_spec _ _ hx).refl ρ
 |func f=>exact(Flat.func f).refl ρ
 |global g =>
  obtain⟨L,h1,h2,h3⟩:=hs.glob g (nblt_tt hx)
  have:=VR.ptr (o:=0) h1
  rw[h2,h3]at this
  exact this
theorem wanted_sound{ρ:Rmap}{a:Ca}{ar:Act}(h:ActR ρ a ar){ops:Array Oper}{o:Oper}:wantedC ops.toList a o=Region.wanted o (yielded ops ar.tmps):=by
 cases hg:o.guard with
 |none=>simp[wantedC,Region.wanted,hg]
 |some q =>
  obtain⟨j,wnt⟩:=q
  simp only[wantedC,Region.wanted,hg,nth_eq,Array.getElem?_toList,yielded]
  cases hj:ops[j]? with
  |none=>simp
  |some oj =>
   simp only[Option.bind_some]
   cases hd:oj.dst with
   |none=>simp
   |some d =>
    simp only[Option.bind_some]
    have hv:=h.get d
    unfold Ca.get at hv
    cases hc:a.t.get d with
    |none =>
     rw[hc]at hv
     simp only at hv ⊢
     cases hr:ar.tmps[d]? with
     |none=>simp
     |some x =>
      rw[Array.getD_eq_getD_getElem?,hr]at hv
      simp only[Option.getD_some]at hv
      cases x<;>first|rfl|(cases hv)
    |some v =>
     rw[hc]at hv
     simp only at hv
     cases hr:ar.tmps[d]? with
     |none =>
      rw[Array.getD_eq_getD_getElem?,hr]at hv
      simp only[Option.getD_none]at hv
      cases v<;>first|rfl|(cases hv)
     |some x =>
      rw[Array.getD_eq_getD_getElem?,hr]at hv
      simp only[Option.getD_some]at hv
      cases hv<;>first
       |rfl
       |(rename_i b;cases wnt<;>cases b<;>rfl)
end Go.Cm
namespace Go.Cm
open Go
variable{P:Program}{w0:Base}{K:Known}
def FW(r:Option Nat):Fence:={Fence.wide with round:=r}
inductive PanR(ρ:Rmap):List PanicEntry→List PanicEntry→Prop
 |nil:PanR ρ [] []
 |cons {v v':Value} {l l':List PanicEntry} (r g:Bool) (h:VR ρ v v') (k:PanR ρ l l'):PanR ρ (⟨v,r,g⟩::l) (⟨v',r,g⟩::l')
theorem PanR.mono{ρ ρ':Rmap}(e:Ext ρ ρ'){l l':List PanicEntry}(h:PanR ρ l l'):PanR ρ' l l':=by
 induction h with
 |nil=>exact .nil
 |cons r g h _ ih=>exact .cons r g (h.mono e) ih
inductive EndR(ρ:Rmap):Ending→Ending→Prop
 |ret {v v':Value} (h:VR ρ v v'):EndR ρ (.returned v) (.returned v')
 |pan {c c':List PanicEntry} (h:PanR ρ c c'):EndR ρ (.panicked c) (.panicked c')
inductive ExitR(ρ:Rmap):Exit→Exit→Prop
 |normal:ExitR ρ .normal .normal
 |exit (id:Nat):ExitR ρ (.exit id) (.exit id)
 |ret:ExitR ρ .ret .ret
 |pan {c c':List PanicEntry} (h:PanR ρ c c'):ExitR ρ (.panic c) (.panic c')
def TarR(ρ:Rmap)(t t':Target):Prop:= ∃fn fn' cap cap',t= .fn fn cap∧t'= .fn fn' cap'∧VR ρ (.func fn #[] cap) (.func fn' #[] cap')
theorem TarR.mono{ρ ρ':Rmap}(e:Ext ρ ρ'){t t':Target}(h:TarR ρ t t'):TarR ρ' t t':=by
 obtain⟨a,b,c,d,x,y,z⟩:=h;exact⟨a,b,c,d,x,y,z.mono e⟩
theorem nil_all{ρ:Rmap}:∀(i:Nat) (v v':Value),([]:List Value)[i]?=some v→([]:List Value)[i]?=some v'→VR ρ v v':=fun i v v' h=>by simp at h
theorem VR.func_inv{ρ:Rmap}{fn:Fn}{first cap:Array Value}{x:Value}(h:VR ρ (.func fn first cap) x) :
  ∃fn' first' cap',x= .func fn' first' cap'∧VR ρ (.func fn #[] cap) (.func fn' #[] cap')∧VRs ρ first.toList first'.toList:=by
 cases h with
 |func f ha h hc k=>exact⟨_,_,_,rfl,.func f rfl nil_all hc k,ha,h⟩
 |method f ha h hc k=>exact⟨_,_,_,rfl,.method f rfl nil_all hc k,ha,h⟩
 |via t p f q ha h hc k=>exact⟨_,_,_,rfl,.via t p f q rfl nil_all hc k,ha,h⟩
 |yield h=>exact⟨_,_,_,rfl,.yield h,VRs.nil⟩
def RoR(ρ:Rmap)(r r':Option Nat):Prop:=(r=none∧r'=none)∨∃l L,r=some l∧ρ l=some L∧r'=some L.r
theorem RoR.mono{ρ ρ':Rmap}(e:Ext ρ ρ'){r r':Option Nat}(h:RoR ρ r r'):RoR ρ' r r':=by
 rcases h with h|⟨l,L,a,b,c⟩
 ·exact .inl h
 exact .inr ⟨l,L,a,e _ _ b,c⟩
def NextUp(P:Program)(R:Ending→World→Prop):Result Next→Prop
 | .ok (.value v) w=>R (.returned v) w
 | .ok (.enter f args) w=>CallsIn Fence.wide 0 P f args w R
 | .ok (.round l f tmps x y) w=>RoundIn Fence.wide 0 P l f tmps x y w R
 |_=>False
def EndGood(P:Program)(w0:Base)(ρ:Rmap)(e:Ending)(S':St):Ending→World→Prop:=fun e' w'=>∃ρ',Ext ρ ρ'∧EndR ρ' e e'∧Sim P w0 ρ' S' w'
def ExitGood(P:Program)(w0:Base)(ρ:Rmap)(e:Exit)(a':Ca)(S':St):Exit→Act→World→Prop:=fun e' ar' w'=>∃ρ',Ext ρ ρ'∧ExitR ρ' e e'∧ActR ρ' a' ar'∧Sim P w0 ρ' S' w'
theorem ExitGood.mono{ρ ρ1:Rmap}(h:Ext ρ ρ1){e:Exit}{a':Ca}{S':St}{e':Exit}{ar':Act}{w':World}(k:ExitGood P w0 ρ1 e a' S' e' ar' w'):ExitGood P w0 ρ e a' S' e' ar' w':=by
 obtain⟨r,a,b,c,d⟩:=k;exact⟨r,h.trans a,b,c,d⟩
structure FnsSound(P:Program)(w0:Base)(ih:Fns):Prop where
 call:∀t args S e S',ih.call t args S=some (e,S')→∀ρ w t' args',Sim P w0 ρ S w→TarR ρ t t'→VRs ρ args args'.toList→NextUp P (EndGood P w0 ρ e S') ((invoke t' args').run P w)
 exec:∀ro c a S e a' S',ih.exec ro c a S=some (e,a',S')→∀ρ w ar ro',Sim P w0 ρ S w→ActR ρ a ar→RoR ρ ro ro'→c.wpIn (FW ro') 0 P (ExitGood P w0 ρ e a' S') ar w
theorem about_wide{r:Option Nat}{o:Oper}{w:World}{g:Operand→Value}:∀f,o.about P w g=some f→(FW r).fn f:=fun _ _=>trivial
structure Leads(P:Program)(w0:Base)(ρ:Rmap)(x:OpR)(S':St)(o:Oper)(ar:Act)(next:Act→World→Prop)(Q:Exit→Act→World→Prop):Prop where
 val:∀v,x= .val v→∀ρ' v' w',Ext ρ ρ'→VR ρ' v v'→Sim P w0 ρ' S' w'→next (ar.put o.dst v') w'
 pan:∀c,x= .pan c→∀ρ' c' w',Ext ρ ρ'→PanR ρ' c c'→Sim P w0 ρ' S' w'→Q (.panic c') ar w'
theorem upon_of_next{ρ:Rmap}{S':St}{o:Oper}{ar:Act}{next:Act→World→Prop}{Q:Exit→Act→World→Prop}{r:Option Nat}{v:Value}{res:Result Next}
  (h:NextGood P w0 ρ v S' res)(hl:Leads P w0 ρ (.val v) S' o ar next Q):o.uponIn (FW r) 0 P ar next Q res:=by
 obtain⟨ρ',v',w',hr,a,b,c⟩:=h
 rcases hr with rfl|⟨rfl,rfl⟩
 ·exact hl.val v rfl ρ' v' w' a b c
 exact hl.val v rfl ρ' undef w' a b c
theorem CallsIn.to_FW{r:Option Nat}{f:FuncId}{args:Array Value}{w:World}{R:Ending→World→Prop}(h:CallsIn Fence.wide 0 P f args w R):CallsIn (FW r) 0 P f args w R:=h
theorem RoundIn.to_FW{r:Option Nat}{l:Nat}{f:FuncId}{tmps:Array Value}{x y:Code}{w:World}{R:Ending→World→Prop}(h:RoundIn Fence.wide 0 P l f tmps x y w R):RoundIn (FW r) 0 P l f tmps x y w R:=h
theorem upon_of_up{ρ:Rmap}{S':St}{o:Oper}{ar:Act}{next:Act→World→Prop}{Q:Exit→Act→World→Prop}{r:Option Nat}{e:Ending}{x:OpR}{res:Result Next}
  (h:NextUp P (EndGood P w0 ρ e S') res)(hx:(∃v,e= .returned v∧x= .val v)∨(∃c,e= .panicked c∧x= .pan c))(hl:Leads P w0 ρ x S' o ar next Q):o.uponIn (FW r) 0 P ar next Q res:=by
 have key:∀e' w',EndGood P w0 ρ e S' e' w'→(match e' with
   | .returned v=>next (ar.put o.dst v) w'
   | .panicked chain=>Q (.panic chain) ar w'
   | .outgrown=>LetsOut Q):=by
  intro e' w' hg
  obtain⟨ρ',a,b,c⟩:=hg
  rcases hx with ⟨v,rfl,rfl⟩|⟨ch,rfl,rfl⟩
  ·cases b with|ret hv=>exact hl.val v rfl ρ' _ w' a hv c
  cases b with|pan hv=>exact hl.pan ch rfl ρ' _ w' a hv c
 unfold NextUp at h
 split at h
 ·exact key _ _ h
 ·exact⟨fun h=>by simp[FW,Fence.wide]at h,CallsIn.to_FW (CallsIn.mono h fun e' w' hg=>by have:=key e' w' hg;cases e'<;>exact this)⟩
 ·exact⟨fun h=>by simp[FW,Fence.wide]at h,RoundIn.to_FW (RoundIn.mono h fun e' w' hg=>by have:=key e' w' hg;cases e'<;>exact this)⟩
 exact h.elim
theorem run_call{o:Oper}(g:Operand→Value){c:Call}(ho:o.op= .call c)(w:World){d:Deferred}(hr:(resolve g c o.type).run P w= .ok d w) :
  (execOp g o).run P w=(invoke d.target d.args).run P w:=by
 simp only[execOp,ho,Sem.run_bind,hr,Result.andThen_ok]
theorem callOp_sound{ih:Fns}(hih:FnsSound P w0 ih){ρ:Rmap}{S S':St}{w:World}(hs:Sim P w0 ρ S w){o:Oper}{f g:Operand→Value}{c:Call}(ho:o.op= .call c)
  (hev:∀x,x∈o.op.operands→VR ρ (f x) (g x)){e:Ending}(h:callOp ih f c S=some (e,S')):NextUp P (EndGood P w0 ρ e S') ((execOp g o).run P w):=by
 unfold callOp at h
 have hargs:(∀x,x∈c.args→VR ρ (f x) (g x)):=by
  intro x hx
  refine hev x ?_
  rw[ho]
  cases hc:c.callee<;>simp[Op.operands,Call.operands,hc,hx]
 split at h
 ·cases h
 ·rename_i r name hc
  rw[run_call (P:=P) g ho w (d:={target:= .fn (.method name) #[],args:= #[g r]++c.args.map g}) (by simp[resolve,hc])]
  refine hih.call _ _ _ _ _ h ρ w _ _ hs ⟨_,_,_,_,rfl,rfl,.method name rfl nil_all rfl nil_all⟩ ?_
  simp only[Array.toList_append,Array.toList_map]
  exact VRs.cons (hev r (by rw[ho];simp[Op.operands,Call.operands,hc])) (VRs.mapOps _ fun x hx=>hargs x (by simpa using hx))
 rename_i fv hc
 split at h
 ·rename_i fn first cap hf
  have hv:=hev fv (by rw[ho];simp[Op.operands,Call.operands,hc])
  rw[hf]at hv
  obtain⟨fn',first',cap',hg,h1,h2⟩:=hv.func_inv
  rw[run_call (P:=P) g ho w (d:={target:= .fn fn' cap',args:=first'++c.args.map g}) (by simp[resolve,hc,hg,Deferred.ofValue])]
  refine hih.call _ _ _ _ _ h ρ w _ _ hs ⟨_,_,_,_,rfl,rfl,h1⟩ ?_
  rw[Array.toList_append]
  exact h2.append (args_vr hargs)
 cases h
theorem step_sound{ih:Fns}(hih:FnsSound P w0 ih){ρ:Rmap}{S S':St}{w:World}(hs:Sim P w0 ρ S w){o:Oper}{f g:Operand→Value}
  (hev:∀x,x∈o.op.operands→VR ρ (f x) (g x)){x:OpR}(h:stepOp P ih f o.op S=some (x,S')){ar:Act}{next:Act→World→Prop}{Q:Exit→Act→World→Prop}{r:Option Nat}
  (hl:Leads P w0 ρ x S' o ar next Q):o.uponIn (FW r) 0 P ar next Q ((o.semAt r g).run P w):=by
 have hd:∀c,o.op≠ .defer c:=by
  intro c hc
  rw[hc]at h
  simp[stepOp,kindOf,heavyOp]at h
 rw[Oper.semAt_eq _ _ _ hd]
 unfold stepOp at h
 split at h
 ·split at h
  ·rename_i v hv
   cases h
   obtain⟨v',a,b⟩:=read_sound hs hev hv
   rw[a]
   exact hl.val v rfl ρ v' w (Ext.refl _) b hs
  cases h
 ·split at h
  ·rename_i v S1 hv
   cases h
   exact upon_of_next (new_sound hs hev hv) hl
  cases h
 split at h
 ·rename_i b args ts ho
  split at h
  ·rename_i v S1 hv
   cases h
   exact upon_of_next (builtin_sound hs ho (fun y hy=>hev y (by rw[ho];simp[Op.operands,Call.operands];exact hy)) hv) hl
  cases h
 ·rename_i c _ ho
  split at h
  ·rename_i v S1 hv
   cases h
   exact upon_of_up (callOp_sound hih hs ho hev hv) (.inl ⟨_,rfl,rfl⟩) hl
  ·rename_i ch S1 hv
   cases h
   exact upon_of_up (callOp_sound hih hs ho hev hv) (.inr ⟨_,rfl,rfl⟩) hl
  cases h
 ·rename_i y ho
  split at h
  ·rename_i t v hy
   cases h
   have hv:=hev y (by rw[ho];simp[Op.operands])
   rw[hy]at hv
   generalize hg:g y=gy at hv
   cases hv with
   |iface _ hv' =>
    rename_i v'
    have e:(execOp g o).run P w= .halt (.panic (.iface t v')) w:=by
     simp[execOp,ho,Instr.panic,hg]
    rw[e]
    exact hl.pan _ rfl ρ _ w (Ext.refl _) (.cons false false (.iface t hv') .nil) hs
  cases h
 split at h
 ·rename_i v S1 hv
  cases h
  exact upon_of_next (heavy_sound hs hev hv) hl
 cases h
end Go.Cm
namespace Go.Cm
open Go
variable{P:Program}{w0:Base}{K:Known}
def OpC(P:Program)(o:Oper):Prop:= ∀x,x∈o.op.operands→(match x with
    | .const v=>flatV flatN v
    | .global g=>Nat.blt g P.globals.size
    |_=>true)=true
theorem constsOk_spec{l:List Oper}(h:constsOk P l=true):∀o,o∈l→OpC P o:=by
 intro o ho x hx
 unfold constsOk at h
 rw[List.all_eq_true]at h
 have h1:=h o ho
 rw[List.all_eq_true]at h1
 exact h1 x (by simpa using hx)
theorem ActR.evs{ρ:Rmap}{S:St}{w:World}(hs:Sim P w0 ρ S w){a:Ca}{ar:Act}(h:ActR ρ a ar){o:Oper}(hc:OpC P o):∀x,x∈o.op.operands→VR ρ (a.ev x) (ar.eval x) :=
 fun x hx=>ev_sound hs h (hc x hx)
theorem runOps_sound{ih:Fns}(hih:FnsSound P w0 ih){ops:Array Oper}{ro:Option Nat}{e:Exit}{a1:Ca}{S1:St}{Q:Exit→Act→World→Prop} :
  ∀(rest:List Oper) (a:Ca) (S:St),runOps P ih ops.toList rest a S=some (e,a1,S1)→(∀o,o∈rest→OpC P o)→∀(ρ:Rmap) (w:World) (ar:Act),Sim P w0 ρ S w→ActR ρ a ar →
   (∀e' ar' w',ExitGood P w0 ρ e a1 S1 e' ar' w'→Q e' ar' w')→wpListIn (FW ro) 0 P ops Q rest ar w
 | [],a,S,h,_,ρ,w,ar,hs,ha,hQ=>by
  simp only[runOps,Option.some.injEq,Prod.mk.injEq]at h
  obtain⟨rfl,rfl,rfl⟩:=h
  exact hQ _ _ _ ⟨ρ,Ext.refl _,.normal,ha,hs⟩
 |o::rest,a,S,h,hc,ρ,w,ar,hs,ha,hQ=>by
  unfold runOps at h
  have hwant:=wanted_sound ha (ops:=ops) (o:=o)
  unfold wpListIn
  rw[←hwant]
  cases hw:wantedC ops.toList a o with
  |false =>
   rw[hw]at h
   simp only[cond_false]at h
   split at h
   ·rename_i a2 hp
    simp only[Bool.false_eq_true,if_false]
    exact⟨about_wide,runOps_sound hih rest a2 S h (fun o ho=>hc o (by simp[ho])) ρ w _ hs (ha.put hp (VR.undef _)) hQ⟩
   cases h
  |true =>
   rw[hw]at h
   simp only[cond_true]at h
   simp only[if_true]
   refine⟨about_wide,?_⟩
   split at h
   ·rename_i v S2 hst
    split at h
    ·rename_i a2 hp
     refine step_sound hih hs (ha.evs hs (hc o (by simp))) hst ⟨?_,?_⟩
     ·intro v2 e2 ρ' v' w' h1 h2 h3
      cases e2
      exact runOps_sound hih rest a2 S2 h (fun o ho=>hc o (by simp[ho])) ρ' w' _ h3 ((ha.mono h1).put hp h2) (fun e' ar' w' hg=>hQ _ _ _ (hg.mono h1))
     intro c e2;cases e2
    cases h
   ·rename_i ch S2 hst
    simp only[Option.some.injEq,Prod.mk.injEq]at h
    obtain⟨rfl,rfl,rfl⟩:=h
    refine step_sound hih hs (ha.evs hs (hc o (by simp))) hst ⟨?_,?_⟩
    ·intro v2 e2;cases e2
    intro c e2 ρ' c' w' h1 h2 h3
    cases e2
    exact hQ _ _ _ ⟨ρ',h1,.pan h2,ha.mono h1,h3⟩
   cases h
theorem region_sound{ih:Fns}(hih:FnsSound P w0 ih){id:Nat}{ops:Array Oper}{ro:Option Nat}{e:Exit}{a a1:Ca}{S S1:St}(h:runOps P ih ops.toList ops.toList a S=some (e,a1,S1))(hc:constsOk P ops.toList=true)
  {ρ:Rmap}{w:World}{ar:Act}(hs:Sim P w0 ρ S w)(ha:ActR ρ a ar):(Code.region id ops false).wpIn (FW ro) 0 P (ExitGood P w0 ρ e a1 S1) ar w :=
 wpIn_region_list (runOps_sound hih ops.toList a S h (constsOk_spec hc) ρ w ar hs ha fun _ _ _ h=>h)
end Go.Cm
namespace Go.Cm
open Go
variable{P:Program}{w0:Base}{K:Known}
section
variable{F:Fence}{n:Nat}{b:Frame}{a:Act}{k:List Item}{cs:List Frame}{w:World}{Q:Exit→Act→World→Prop}
theorem stepR_scope{c:Code}:step P (lone (b.atR a (.code (.scope c)::k)) cs w)= .next (lone (b.atR a (.code c:: .inScope c::k)) cs w) :=
 step_lone_go (by simp[stepG,stepG.exec,Frame.atR])
theorem stepR_inScope{c:Code}:step P (lone (b.atR a (.inScope c::k)) cs w)= .next (lone (b.atR a k) cs w) :=
 step_lone_go (by simp[stepG,stepG.exec,Frame.atR])
theorem wpIn_scope_straight{c:Code}(h:c.wpIn F n P (Exit.noGoto Q) a w):(Code.scope c).wpIn F n P Q a w:=by
 intro b k cs hro hb hr
 have h0:(lone (b.atR a (.code (.scope c)::k)) cs w).fenced P F:=fenced_calm hb hr rfl
 obtain⟨e,a₁,w₁,hq,harr⟩:=h b (.inScope c::k) cs hro hb hr
 cases e with
 |normal=>exact⟨.normal,a₁,w₁,hq,.head h0 stepR_scope (StepsIn.trans harr (.one (fenced_calm hb hr rfl) stepR_inScope))⟩
 |exit id =>
  have hx:exitTo id (.inScope c::k)=exitTo id k:=by simp[exitTo]
  exact⟨_,a₁,w₁,hq,fun k' hk=> .head h0 stepR_scope (harr.1 k' (by rw[hx];exact hk)),
   fun hr' hk=>let⟨k₁,h1,h2⟩:=harr.2 hr' (by rw[hx];exact hk);⟨k₁,h1,.head h0 stepR_scope h2⟩⟩
 |goto l=>exact hq.elim
 |ret=>exact⟨_,a₁,w₁,hq,.of_steps (.one h0 stepR_scope) harr⟩
 |panic ch=>exact⟨_,a₁,w₁,hq,.of_steps (.one h0 stepR_scope) harr⟩
 |outgrown=>exact⟨_,a₁,w₁,hq,.of_steps (.one h0 stepR_scope) harr⟩
end
def DrawSound(P:Program)(w0:Base)(ih:Fns):Prop :=
 ∀(id:Nat) (ops:Array Oper) (a:Ca) (S:St) (e:Exit) (a1:Ca) (S1:St),runDraw P ih ops.toList a S=some (e,a1,S1)→constsOk P ops.toList=true →
  ∀(ro:Option Nat) (ρ:Rmap) (w:World) (ar:Act),Sim P w0 ρ S w→ActR ρ a ar→(Code.region id ops true).wpIn (FW ro) 0 P (ExitGood P w0 ρ e a1 S1) ar w
def RangeSound(P:Program)(w0:Base)(ih:Fns):Prop :=
 ∀(ro:Option Nat) (g:Operand) (ps:Array Tmp) (x y:Code) (a:Ca) (S:St) (e:Exit) (a1:Ca) (S1:St),execF P ih ro (.rangeFunc g ps x y) a S=some (e,a1,S1) →
  ∀(ρ:Rmap) (w:World) (ar:Act) (ro':Option Nat),Sim P w0 ρ S w→ActR ρ a ar→RoR ρ ro ro'→(Code.rangeFunc g ps x y).wpIn (FW ro') 0 P (ExitGood P w0 ρ e a1 S1) ar w
theorem bool_ev{ρ:Rmap}{a:Ca}{ar:Act}(h:ActR ρ a ar){c:Operand}{t:Bool}(hc:a.ev c= .bool t):ar.eval c= .bool t:=by
 cases c with
 |tmp i =>
  have hv:=h.get i
  have hc':a.get i= .bool t:=hc
  rw[hc']at hv
  show ar.tmps.getD i undef= .bool t
  generalize ar.tmps.getD i undef=u at hv
  cases hv;rfl
 |const v=>exact hc
 |global g=>cases hc
 |func f=>cases hc
theorem exec_sound{n:Nat}(hall:∀m,m≤n→FnsSound P w0 (fns P K m))(hd:DrawSound P w0 (fns P K n))(hr:RangeSound P w0 (fns P K n)) :
  ∀ro c a S e a' S',execF P (fns P K n) ro c a S=some (e,a',S')→∀ρ w ar ro',Sim P w0 ρ S w→ActR ρ a ar→RoR ρ ro ro'→c.wpIn (FW ro') 0 P (ExitGood P w0 ρ e a' S') ar w:=by
 intro ro c a S e a1 S1 h ρ w ar ro' hs ha hro
 have hih:=hall n (Nat.le_refl _)
 cases c with
 |skip =>
  simp only[execF,Option.some.injEq,Prod.mk.injEq]at h
  obtain⟨rfl,rfl,rfl⟩:=h
  exact wpIn_skip ⟨ρ,Ext.refl _,.normal,ha,hs⟩
 |label l =>
  simp only[execF,Option.some.injEq,Prod.mk.injEq]at h
  obtain⟨rfl,rfl,rfl⟩:=h
  exact wpIn_label ⟨ρ,Ext.refl _,.normal,ha,hs⟩
 |exit id =>
  simp only[execF,Option.some.injEq,Prod.mk.injEq]at h
  obtain⟨rfl,rfl,rfl⟩:=h
  exact wpIn_exit ⟨ρ,Ext.refl _,.exit id,ha,hs⟩
 |ret =>
  simp only[execF,Option.some.injEq,Prod.mk.injEq]at h
  obtain⟨rfl,rfl,rfl⟩:=h
  exact wpIn_ret ⟨ρ,Ext.refl _,.ret,ha,hs⟩
 |region id ops draw =>
  simp only[execF]at h
  cases hc:constsOk P ops.toList with
  |false=>rw[hc]at h;cases h
  |true =>
   rw[hc]at h
   cases draw with
   |false=>exact region_sound hih h hc hs ha
   |true=>exact hd id ops a S e a1 S1 h hc ro' ρ w ar hs ha
 |seq x y =>
  simp only[execF]at h
  refine wpIn_seq ?_
  split at h
  ·rename_i a2 S2 hx
   refine wpIn_mono (hih.exec _ _ _ _ _ _ _ hx ρ w ar ro' hs ha hro) ?_
   rintro e2 ar2 w2 ⟨ρ2,h1,h2,h3,h4⟩
   cases h2
   exact wpIn_mono (hih.exec _ _ _ _ _ _ _ h ρ2 w2 ar2 ro' h4 h3 (hro.mono h1)) fun _ _ _ hg=>hg.mono h1
  rename_i hne
  refine wpIn_mono (hih.exec _ _ _ _ _ _ _ h ρ w ar ro' hs ha hro) ?_
  rintro e2 ar2 w2 ⟨ρ2,h1,h2,h3,h4⟩
  cases h2 with
  |normal=>exact absurd h (hne _ _)
  |exit id=>exact⟨ρ2,h1,.exit id,h3,h4⟩
  |ret=>exact⟨ρ2,h1,.ret,h3,h4⟩
  |pan hp=>exact⟨ρ2,h1,.pan hp,h3,h4⟩
 |cond c x y =>
  simp only[execF]at h
  split at h
  ·rename_i t hc
   refine wpIn_cond (bool_ev ha hc) ?_
   cases t<;>exact hih.exec _ _ _ _ _ _ _ h ρ w ar ro' hs ha hro
  cases h
 |block id c =>
  simp only[execF]at h
  refine wpIn_block ?_
  split at h
  ·rename_i j a2 S2 hx
   refine wpIn_mono (hih.exec _ _ _ _ _ _ _ hx ρ w ar ro' hs ha hro) ?_
   rintro e2 ar2 w2 ⟨ρ2,h1,h2,h3,h4⟩
   cases h2
   unfold Exit.inBlock
   cases hj:Nat.beq j id with
   |true =>
    rw[hj]at h
    simp only[cond_true,Option.some.injEq,Prod.mk.injEq]at h
    obtain⟨rfl,rfl,rfl⟩:=h
    have:j=id:=Nat.eq_of_beq_eq_true hj
    simp only[this,if_true]
    exact⟨ρ2,h1,.normal,h3,h4⟩
   |false =>
    rw[hj]at h
    simp only[cond_false,Option.some.injEq,Prod.mk.injEq]at h
    obtain⟨rfl,rfl,rfl⟩:=h
    have:j≠id:=Nat.ne_of_beq_eq_false hj
    simp only[this,if_false]
    exact⟨ρ2,h1,.exit j,h3,h4⟩
  rename_i hne
  refine wpIn_mono (hih.exec _ _ _ _ _ _ _ h ρ w ar ro' hs ha hro) ?_
  rintro e2 ar2 w2 ⟨ρ2,h1,h2,h3,h4⟩
  cases h2 with
  |normal=>exact⟨ρ2,h1,.normal,h3,h4⟩
  |exit id=>exact absurd h (hne _ _ _)
  |ret=>exact⟨ρ2,h1,.ret,h3,h4⟩
  |pan hp=>exact⟨ρ2,h1,.pan hp,h3,h4⟩
 |loop c =>
  refine wpIn_loop_ghost (fun m ar w=>m≤n∧∃a S ρ1,Ext ρ ρ1∧execF P (fns P K m) ro (.loop c) a S=some (e,a1,S1)∧Sim P w0 ρ1 S w∧ActR ρ1 a ar) n ⟨Nat.le_refl _,a,S,ρ,Ext.refl _,h,hs,ha⟩ ?_
  rintro m ar w ⟨hm,a,S,ρ1,hx1,h,hs,ha⟩
  have hih:=hall m hm
  have hro1:=hro.mono hx1
  simp only[execF]at h
  split at h
  ·rename_i a2 S2 hx
   refine wpIn_mono (hih.exec _ _ _ _ _ _ _ hx ρ1 w ar ro' hs ha hro1) ?_
   rintro e2 ar2 w2 ⟨ρ2,h1,h2,h3,h4⟩
   cases h2
   cases m with
   |zero=>cases h
   |succ m=>exact⟨m,Nat.lt_succ_self _,by omega,a2,S2,ρ2,hx1.trans h1,h,h4,h3⟩
  rename_i hne
  refine wpIn_mono (hih.exec _ _ _ _ _ _ _ h ρ1 w ar ro' hs ha hro1) ?_
  rintro e2 ar2 w2 ⟨ρ2,h1,h2,h3,h4⟩
  cases h2 with
  |normal=>exact absurd h (hne _ _)
  |exit id=>exact⟨ρ2,hx1.trans h1,.exit id,h3,h4⟩
  |ret=>exact⟨ρ2,hx1.trans h1,.ret,h3,h4⟩
  |pan hp=>exact⟨ρ2,hx1.trans h1,.pan hp,h3,h4⟩
 |scope c =>
  simp only[execF]at h
  refine wpIn_scope_straight ?_
  split at h
  ·cases h
  refine wpIn_mono (hih.exec _ _ _ _ _ _ _ h ρ w ar ro' hs ha hro) ?_
  rintro e2 ar2 w2 ⟨ρ2,h1,h2,h3,h4⟩
  cases h2 with
  |normal=>exact⟨ρ2,h1,.normal,h3,h4⟩
  |exit id=>exact⟨ρ2,h1,.exit id,h3,h4⟩
  |ret=>exact⟨ρ2,h1,.ret,h3,h4⟩
  |pan hp=>exact⟨ρ2,h1,.pan hp,h3,h4⟩
 |rangeFunc g ps x y=>exact hr ro g ps x y a S e a1 S1 h ρ w ar ro' hs ha hro
 |goto l=>cases h
 |refuse r=>cases h
end Go.Cm

/-
  The evaluator of the model, and that it is sound: part 5.
-/
import Derived.Test.YtmfphenhpkgidaaGreatDoorCm4
namespace Go.Cm
open Go
variable{P:Program}{K:BX}{a b:Ap}
structure EO(a b:Ap):Prop where
 exec:∀ro c x S r,a.exec ro c x S=some r→b.exec ro c x S=some r
 call:∀t args S r,a.call t args S=some r→b.call t args S=some r
theorem ZM(h:EO a b){ρ:Operand→Value}{c:Call}{S:St}{r:Ending×St}(e:Oh a ρ c S=some r):Oh b ρ c S=some r:=by
 unfold Oh at e ⊢
 cases hc:c.callee with
 |builtin x=>rw[hc]at e;cases e
 |invoke x n=>rw[hc]at e;exact h.call _ _ _ _ e
 |value f =>
  rw[hc]at e
  simp only at e ⊢
  split at e
  ·exact h.call _ _ _ _ e
  cases e
theorem Mo(h:EO a b){ρ:Operand→Value}{op:Op}{S:St}{r:QX×St}(e:CG P a ρ op S=some r):CG P b ρ op S=some r:=by
 unfold CG at e ⊢
 split
 ·rename_i hk;rw[hk]at e;exact e
 ·rename_i hk;rw[hk]at e;exact e
 rename_i hk
 rw[hk]at e
 simp only at e ⊢
 cases op with
 |call c =>
  obtain⟨callee,as,ts⟩:=c
  cases callee with
  |builtin x=>exact e
  |invoke x n =>
   simp only at e ⊢
   split at e
   ·rename_i hx;rw[ZM h hx];exact e
   ·rename_i hx;rw[ZM h hx];exact e
   cases e
  |value f =>
   simp only at e ⊢
   split at e
   ·rename_i hx;rw[ZM h hx];exact e
   ·rename_i hx;rw[ZM h hx];exact e
   cases e
 |_=>exact e
theorem YI(h:EO a b){full:List Oper}:∀(l:List Oper) {x:Ca} {S:St} {r:Exit×Ca×St},BT P a full l x S=some r→BT P b full l x S=some r
 | [],x,S,r,e=>e
 |o::l,x,S,r,e=>by
  unfold BT at e ⊢
  cases hw:Du full x o with
  |true =>
   rw[hw]at e
   simp only[cond_true]at e ⊢
   split at e
   ·rename_i v S' hs
    rw[Mo h hs]
    simp only
    split at e
    ·rename_i x' hp
     exact YI h l e
    cases e
   ·rename_i ch S' hs
    rw[Mo h hs]
    exact e
   cases e
  |false =>
   rw[hw]at e
   simp only[cond_false]at e ⊢
   split at e
   ·exact YI h l e
   cases e
theorem Pg(h:EO a b){full:List Oper}{AJ:List Nat}:∀(l:List (Oper×Nat)) {Ah:List (Nat×DD)} {x:Ca} {S:St} {r:Exit×Ca×St},DT P a full AJ l Ah x S=some r→DT P b full AJ l Ah x S=some r
 | [],Ah,x,S,r,e=>e
 |(o,i)::l,Ah,x,S,r,e=>by
  unfold DT at e ⊢
  cases hw:Du full x o with
  |true =>
   rw[hw]at e
   simp only[cond_true]at e ⊢
   cases hk:kindOf o.op with
   |read =>
    rw[hk]at e
    simp only at e ⊢
    split at e
    ·split at e
     ·exact Pg h l e
     cases e
    cases e
   |fresh =>
    rw[hk]at e
    simp only at e ⊢
    split at e
    ·split at e
     ·exact Pg h l e
     cases e
    cases e
   |Fk =>
    rw[hk]at e
    simp only at e ⊢
    split at e
    ·rename_i v S' hs
     rw[Mo h hs]
     simp only
     split at e
     ·rename_i x' hp
      cases hc:((Ah.filter fun x=>!((nth AJ i).getD 0).testBit x.1).all fun x=>x.2.ok P S')with
      |true =>
       rw[hc]at e
       exact Pg h l e
      |false=>rw[hc]at e;cases e
     cases e
    cases e
  |false =>
   rw[hw]at e
   simp only[cond_false]at e ⊢
   split at e
   ·exact Pg h l e
   cases e
theorem AM0(h:EO a b){full:List Oper}{x:Ca}{S:St}{r:Exit×Ca×St}(e:OH P a full x S=some r):OH P b full x S=some r:=by
 unfold OH at e ⊢
 split at e
 ·exact Pg h _ e
 cases e
theorem AFL(h:EO a b){ro:Option Nat}{code:Code}{x:Ca}{S:St}{r:Exit×Ca×St}(e:Bx P a ro code x S=some r):Bx P b ro code x S=some r:=by
 cases code with
 |skip=>exact e
 |label _=>exact e
 |exit _=>exact e
 |ret=>exact e
 |goto _=>exact e
 |refuse _=>exact e
 |region i ops d =>
  simp only[Bx]at e ⊢
  cases hc:D' P ops.toList with
  |false=>rw[hc]at e;cases e
  |true =>
   rw[hc]at e
   simp only[cond_true]at e ⊢
   cases d with
   |true=>exact AM0 h e
   |false=>exact YI h _ e
 |seq y z =>
  simp only[Bx]at e ⊢
  split at e
  ·rename_i hx
   rw[h.exec _ _ _ _ _ hx]
   exact h.exec _ _ _ _ _ e
  rename_i r' Ac
  rw[h.exec _ _ _ _ _ e]
  split
  ·rename_i heq
   cases heq
   exact absurd e (by intro h';exact Ac _ _ h')
  rfl
 |cond c y z =>
  simp only[Bx]at e ⊢
  split at e
  ·exact h.exec _ _ _ _ _ e
  cases e
 |block i c =>
  simp only[Bx]at e ⊢
  split at e
  ·rename_i j a' S' hx
   rw[h.exec _ _ _ _ _ hx]
   exact e
  rename_i r' Ac
  rw[h.exec _ _ _ _ _ e]
  split
  ·rename_i heq
   cases heq
   exact absurd e (Ac _ _ _)
  rfl
 |loop c =>
  simp only[Bx]at e ⊢
  split at e
  ·rename_i hx
   rw[h.exec _ _ _ _ _ hx]
   exact h.exec _ _ _ _ _ e
  rename_i r' Ac
  rw[h.exec _ _ _ _ _ e]
  split
  ·rename_i heq
   cases heq
   exact absurd e (Ac _ _)
  rfl
 |scope c =>
  simp only[Bx]at e ⊢
  split at e
  ·cases e
  rename_i r' Ac
  rw[h.exec _ _ _ _ _ e]
  split
  ·rename_i heq
   cases heq
   exact absurd e (Ac _ _ _)
  rfl
 |rangeFunc f params assign body =>
  simp only[Bx]at e ⊢
  split at e
  ·rename_i fn first cap hf
   cases hc:(isConst f||!Qh P fn)with
   |true=>rw[hc]at e;cases e
   |false =>
    rw[hc]at e
    simp only[cond_false]at e ⊢
    split at e
    ·rename_i d mark S1 hs
     skip
     split at e
     ·rename_i v S3 hx
      rw[h.call _ _ _ _ hx]
      exact e
     ·rename_i ch S3 hx
      rw[h.call _ _ _ _ hx]
      exact e
     cases e
    cases e
  cases e
theorem AFA(h:EO a b){f:FuncId}{args:List Value}{S:St}{r:Ending×St}(e:Kz P K a f args S=some r):Kz P K b f args S=some r:=by
 unfold Kz at e ⊢
 split at e
 ·split at e
  ·rename_i fn _ _ c _
   cases hc:((fn.name== "runtime.NumGoroutine")||Nat.blt 256 (El fn.ntmps args.length))with
   |true=>rw[hc]at e;cases e
   |false =>
    rw[hc]at e
    simp only[cond_false]at e ⊢
    split at e
    ·rename_i hx
     rw[h.exec _ _ _ _ _ hx]
     exact e
    cases e
  exact e
 cases e
theorem cY(h:EO a b){full:List Oper}:∀(l:List Oper) {x:Ca} {S:St} {r:Exit×Ca×St},MY P a full l x S=some r→MY P b full l x S=some r
 | [],x,S,r,e=>e
 |o::l,x,S,r,e=>by
  unfold MY at e ⊢
  cases hw:Du full x o with
  |true =>
   rw[hw]at e
   simp only[cond_true]at e ⊢
   split
   ·rename_i c AV
    rw[AV]at e
    simp only at e
    split at e
    ·split at e
     ·exact cY h l e
     cases e
    cases e
   rename_i Ac
   split at e
   ·rename_i c AV;exact absurd AV (Ac c)
   split at e
   ·rename_i v S' hs
    rw[Mo h hs]
    simp only
    split at e
    ·rename_i x' hp
     exact cY h l e
    cases e
   ·rename_i ch S' hs
    rw[Mo h hs]
    exact e
   cases e
  |false =>
   rw[hw]at e
   simp only[cond_false]at e ⊢
   split at e
   ·exact cY h l e
   cases e
theorem WZ(h:EO a b):∀(n:Nat) {code:Code} {x:Ca} {S:St} {r:Exit×Ca×St},K0 P a n code x S=some r→K0 P b n code x S=some r
 |0,code,x,S,r,e=>by cases e
 |n+1,code,x,S,r,e=>by
  cases code with
  |region i ops d =>
   simp only[K0]at e ⊢
   cases hd:iM ops.toList with
   |true =>
    rw[hd]at e
    simp only[cond_true]at e ⊢
    cases hc:(d||!D' P ops.toList)with
    |true=>rw[hc]at e;cases e
    |false =>
     rw[hc]at e
     exact cY h _ e
   |false =>
    rw[hd]at e
    exact h.exec _ _ _ _ _ e
  |seq y z =>
   simp only[K0]at e ⊢
   split at e
   ·rename_i hx
    rw[WZ h n hx]
    exact WZ h n e
   rename_i r' Ac
   rw[WZ h n e]
   split
   ·rename_i heq
    cases heq
    exact absurd e (Ac _ _)
   rfl
  |cond c y z =>
   simp only[K0]at e ⊢
   split at e
   ·exact WZ h n e
   cases e
  |skip=>exact h.exec _ _ _ _ _ e
  |label _=>exact h.exec _ _ _ _ _ e
  |exit _=>exact h.exec _ _ _ _ _ e
  |ret=>exact h.exec _ _ _ _ _ e
  |goto _=>exact h.exec _ _ _ _ _ e
  |refuse _=>exact h.exec _ _ _ _ _ e
  |block _ _=>exact h.exec _ _ _ _ _ e
  |loop _=>exact h.exec _ _ _ _ _ e
  |scope _=>exact h.exec _ _ _ _ _ e
  |rangeFunc _ _ _ _=>exact h.exec _ _ _ _ _ e
theorem WX(h:EO a b):∀(n:Nat) {code:Code} {x:Ca} {S:St} {m:Mode} {r:Exit×Ca×St×Mode},L7 P a n code x S m=some r→L7 P b n code x S m=some r
 |0,code,x,S,m,r,e=>by cases e
 |n+1,code,x,S,m,r,e=>by
  have other:∀{code:Code},(match a.exec none code x S with
    |some (.normal,a',S')=>some (Exit.normal,a',S',m)
    |_=>none)=some r→(match b.exec none code x S with
    |some (.normal,a',S')=>some (Exit.normal,a',S',m)
    |_=>none)=some r:=by
   intro code e
   split at e
   ·rename_i hx
    rw[h.exec _ _ _ _ _ hx]
    exact e
   cases e
  cases code with
  |region i ops d =>
   cases d with
   |false=>exact e
   |true=>exact other e
  |seq y z =>
   simp only[L7]at e ⊢
   split at e
   ·rename_i hx
    rw[WX h n hx]
    exact WX h n e
   rename_i r' Ac
   rw[WX h n e]
   split
   ·rename_i heq
    cases heq
    exact absurd e (Ac _ _ _)
   rfl
  |cond c y z =>
   simp only[L7]at e ⊢
   split at e
   ·exact WX h n e
   cases e
  |skip=>exact e
  |ret=>exact e
  |label _=>exact other e
  |exit _=>exact other e
  |goto _=>exact other e
  |refuse _=>exact other e
  |block _ _=>exact other e
  |loop _=>exact other e
  |scope _=>exact other e
  |rangeFunc _ _ _ _=>exact other e
theorem AEU(h:EO a b){f:FuncId}{args:List Value}{m:Mode}{S:St}{r:Mode×St}(e:T4 P a f args m S=some r):T4 P b f args m S=some r:=by
 unfold T4 at e ⊢
 split at e
 ·split at e
  ·rename_i fn _ _ c _
   cases hc:((fn.name== "runtime.NumGoroutine")||Nat.blt 256 (El fn.ntmps args.length))with
   |true=>rw[hc]at e;cases e
   |false =>
    rw[hc]at e
    simp only[cond_false]at e ⊢
    split at e
    ·rename_i hx
     rw[WX h _ hx]
     exact e
    cases e
  cases e
 cases e
theorem lS(h:EO a b):∀(ds:List Deferred) {m:Mode} {S:St} {r:Mode×St},IJ P a ds m S=some r→IJ P b ds m S=some r
 | [],m,S,r,e=>e
 |d::ds,m,S,r,e=>by
  simp only[IJ]at e ⊢
  split at e
  ·split at e
   ·exact lS h ds e
   cases e
  ·split at e
   ·rename_i hx
    rw[AEU h hx]
    exact lS h ds e
   cases e
  cases e
theorem fc(h:EO a b){x:Ca}{rs:List ResultVar}{ds:List Deferred}{m:Mode}{S:St}{r:Ending×St}(e:Oo P x rs (IJ P a ds m S)=some r):Oo P x rs (IJ P b ds m S)=some r:=by
 cases hl:IJ P a ds m S with
 |none=>rw[hl]at e;cases e
 |some y=>rw[lS h ds hl,←hl];exact e
theorem AFC(h:EO a b){f:FuncId}{args:List Value}{S:St}{r:Ending×St}(e:Qm P a f args S=some r):Qm P b f args S=some r:=by
 unfold Qm at e ⊢
 split at e
 ·split at e
  ·rename_i fn _ _ c _
   cases hc:((fn.name== "runtime.NumGoroutine")||Nat.blt 256 (El fn.ntmps args.length))with
   |true=>rw[hc]at e;cases e
   |false =>
    rw[hc]at e
    simp only[cond_false]at e ⊢
    split at e
    ·rename_i hx
     rw[WZ h _ hx]
     simp only
     split at e
     ·exact fc h e
     ·exact fc h e
     ·exact fc h e
     cases e
    cases e
  cases e
 cases e
theorem WN(h:EO a b){f:FuncId}{args:List Value}{S:St}{r:Ending×St}(e:Hb P K a f args S=some r):Hb P K b f args S=some r:=by
 unfold Hb at e ⊢
 split at e
 ·exact e
 cases hd:K.defers f with
 |true=>rw[hd]at e;exact AFC h e
 |false=>rw[hd]at e;exact AFA h e
theorem AKG(h:EO a b){l:Nat}{args:List Value}{S:St}{r:Ending×St}(e:VF a l args S=some r):VF b l args S=some r:=by
 unfold VF at e ⊢
 split at e
 ·rename_i n t ps x y d _
  cases hc:Nat.blt 256 n with
  |true=>rw[hc]at e;cases e
  |false =>
   rw[hc]at e
   simp only[cond_false]at e ⊢
   split at e
   ·split at e
    ·rename_i hx
     rw[h.exec _ _ _ _ _ hx]
     simp only
     split at e
     ·rename_i hl
      split at e
      ·rename_i hy
       rw[h.exec _ _ _ _ _ hy]
       exact e
      cases e
     cases e
    cases e
   cases e
 cases e
theorem AEW(h:EO a b){t:Target}{args:List Value}{S:St}{r:Ending×St}(e:NR P K a t args S=some r):NR P K b t args S=some r:=by
 unfold NR at e ⊢
 split at e
 ·exact WN h e
 ·exact AKG h e
 ·split at e
  ·split at e
   ·exact WN h e
   cases e
  cases e
 ·rename_i t path f ptr _
  split at e
  ·cases hp:path.isEmpty with
   |false=>rw[hp]at e;cases e
   |true =>
    rw[hp]at e
    simp only[cond_true]at e ⊢
    split at e
    ·exact WN h e
    ·split at e
     ·exact WN h e
     cases e
    ·exact WN h e
    cases e
  cases e
 cases e
theorem gN:∀n,EO (fns P K n) (fns P K (n+1))
 |0=>⟨fun _ _ _ _ _ h=>(by cases h),fun _ _ _ _ h=>(by cases h)⟩
 |n+1=>⟨fun _ _ _ _ _ h=>AFL (gN n) h,fun _ _ _ _ h=>AEW (gN n) h⟩
theorem EO.refl(a:Ap):EO a a:=⟨fun _ _ _ _ _ h=>h,fun _ _ _ _ h=>h⟩
theorem EO.trans{a b c:Ap}(h:EO a b)(k:EO b c):EO a c:=⟨fun _ _ _ _ _ x=>k.exec _ _ _ _ _ (h.exec _ _ _ _ _ x),fun _ _ _ _ x=>k.call _ _ _ _ (h.call _ _ _ _ x)⟩
theorem tT(n:Nat):∀k,EO (fns P K n) (fns P K (n+k))
 |0=>EO.refl _
 |k+1=>(tT n k).trans (gN _)
theorem K2{n m:Nat}(h:n≤m):EO (fns P K n) (fns P K m):=by
 obtain⟨k,rfl⟩:=Nat.exists_eq_add_of_le h
 exact tT n k
end Go.Cm
namespace Go.Cm
open Go
variable{P:Program}{K:BX}
abbrev Env:=List (Nat×Value)
def look:Env→Nat→Option Value
 | [],_=>none
 |(k,v)::L,i=>bif Nat.beq k i then some v else look L i
def A7(L:Env):Operand→Option Value
 | .tmp t=>look L t
 | .const v=>some v
 | .global g=>some (.pointer (some ⟨g,0,none⟩))
 | .func f=>some (.func (.func f) #[] #[])
def fk(L:Env)(x:Operand):Value:=match A7 L x with
 |some v=>v
 |none=>undef
structure Has(n:Nat)(a:Ca)(L:Env):Prop where
 nn:a.n=n
 le:n≤256
 df:a.defers= []
 val:∀k v,look L k=some v→a.get k=v
theorem Has.ev{n:Nat}{a:Ca}{L:Env}(h:Has n a L){x:Operand}{v:Value}(hx:A7 L x=some v):a.ev x=v:=by
 cases x with
 |tmp t=>exact h.val _ _ hx
 |const v=>exact Option.some.inj hx
 |global g=>exact Option.some.inj hx
 |func f=>exact Option.some.inj hx
theorem Has.fk{n:Nat}{a:Ca}{L:Env}(h:Has n a L){x:Operand}(hx:(A7 L x).isSome=true):a.ev x=fk L x:=by
 cases hv:A7 L x with
 |none=>rw[hv]at hx;cases hx
 |some v=>rw[h.ev hv];unfold Cm.fk;rw[hv]
theorem AET(n:Nat)(t:Tm)(ds:List Deferred)(d k:Nat)(v:Value)(hd:d<256):Ca.get ⟨n,t.set d (some v),ds⟩ k=if k=d then v else Ca.get ⟨n,t,ds⟩ k:=by
 unfold Ca.get
 rw[PT.Zy _ _ _ (show d<2 ^ 8 from hd)]
 by_cases h:k=d
 ·rw[if_pos h,if_pos h]
 rw[if_neg h,if_neg h]
theorem LR{k i:Nat}{v:Value}{L:Env}:look ((k,v)::L) i=if i=k then some v else look L i:=by
 show(bif Nat.beq k i then some v else look L i)=_
 by_cases h:i=k
 ·subst h;rw[if_pos rfl,IN];rfl
 rw[if_neg h,MP (fun e=>h e.symm)];rfl
theorem Has.put{n:Nat}{a:Ca}{L:Env}(h:Has n a L){d:Nat}(hd:Nat.blt d n=true)(v:Value):∃a',a.put (some d) v=some a'∧Has n a' ((d,v)::L):=by
 have hd':=Gk hd
 have hle:=h.le
 obtain⟨m,t,ds⟩:=a
 obtain rfl:m=n:=h.nn
 refine⟨⟨m,t.set d (some v),ds⟩,by unfold Ca.put;simp only[hd,cond_true],⟨rfl,h.le,h.df,fun k w hk=>?_⟩⟩
 show Ca.get ⟨m,t.set d (some v),ds⟩ k=w
 rw[AET _ _ _ _ _ _ (by omega)]
 rw[LR]at hk
 by_cases e:k=d
 ·rw[if_pos e]at hk ⊢;exact Option.some.inj hk
 rw[if_neg e]at hk ⊢;exact h.val _ _ hk
def Af:Env→Env→Prop
 | [],_=>True
 |(k,v)::r,L=>look L k=some v∧Af r L
theorem Af.look:∀{L' L:Env},Af L' L→∀k v,look L' k=some v→look L k=some v
 | [],_,_,k,v,h=>by cases h
 |(j,u)::r,L,hs,k,v,h=>by
  rw[LR]at h
  by_cases e:k=j
  ·rw[if_pos e]at h;cases h;rw[e];exact hs.1
  rw[if_neg e]at h;exact Af.look hs.2 k v h
theorem Has.sub{n:Nat}{a:Ca}{L L':Env}(h:Has n a L)(hs:Af L' L):Has n a L':=⟨h.nn,h.le,h.df,fun k v hk=>h.val k v (hs.look k v hk)⟩
abbrev CV:=Exit→Env→St→Prop
def XE(P:Program)(K:BX)(n:Nat)(ro:Option Nat)(c:Code)(L:Env)(S:St)(Q:CV):Prop :=
 ∀a,Has n a L→∃m e a' S' L',(fns P K m).exec ro c a S=some (e,a',S')∧Has n a' L'∧Q e L' S'
def RE(P:Program)(K:BX)(n:Nat)(ops:List Oper)(i:Nat)(L:Env)(S:St)(Q:CV):Prop :=
 ∀a,Has n a L→∃m e a' S' L',BT P (fns P K m) ops (ops.drop i) a S=some (e,a',S')∧Has n a' L'∧Q e L' S'
def CC(P:Program)(K:BX)(f:FuncId)(args:List Value)(S:St)(Q:Value→St→Prop):Prop :=
 ∃m v S',Hb P K (fns P K m) f args S=some (.returned v,S')∧Q v S'
theorem Zn{m k:Nat}(h:m≤k){ro:Option Nat}{c:Code}{a:Ca}{S:St}{r:Exit×Ca×St}(e:(fns P K m).exec ro c a S=some r):(fns P K k).exec ro c a S=some r:=(K2 h).exec _ _ _ _ _ e
section
variable{n:Nat}{ro:Option Nat}{L:Env}{S:St}{Q:CV}
theorem AK{c:Code}{L':Env}(hs:Af L' L)(h:XE P K n ro c L' S Q):XE P K n ro c L S Q:=fun a ha=>h a (ha.sub hs)
theorem py{c:Code}{Q':CV}(h:XE P K n ro c L S Q')(hq:∀e L' S',Q' e L' S'→Q e L' S'):XE P K n ro c L S Q:=by
 intro a ha
 obtain⟨m,e,a',S',L',h1,h2,h3⟩:=h a ha
 exact⟨m,e,a',S',L',h1,h2,hq _ _ _ h3⟩
theorem ASy(h:Q .normal L S):XE P K n ro .skip L S Q:=fun a ha=>⟨1,_,a,S,L,rfl,ha,h⟩
theorem ASs{id:Nat}(h:Q (.exit id) L S):XE P K n ro (.exit id) L S Q:=fun a ha=>⟨1,_,a,S,L,rfl,ha,h⟩
theorem ASv(h:Q .ret L S):XE P K n ro .ret L S Q:=fun a ha=>⟨1,_,a,S,L,rfl,ha,h⟩
def Lq(P:Program)(K:BX)(n:Nat)(ro:Option Nat)(y:Code)(Q:CV):CV:=fun e L S=>match e with
 | .normal=>XE P K n ro y L S Q
 |e=>Q e L S
theorem ASx{x y:Code}(h:XE P K n ro x L S (Lq P K n ro y Q)):XE P K n ro (.seq x y) L S Q:=by
 intro a ha
 obtain⟨m,e,a',S',L',h1,h2,h3⟩:=h a ha
 cases e with
 |normal =>
  obtain⟨m2,e2,a2,S2,L2,k1,k2,k3⟩:=h3 a' h2
  refine⟨max m m2+1,e2,a2,S2,L2,?_,k2,k3⟩
  show Bx P (fns P K (max m m2)) ro (.seq x y) a S=_
  simp only[Bx]
  rw[Zn (Nat.le_max_left m m2) h1]
  exact Zn (Nat.le_max_right m m2) k1
 |_ =>
  refine⟨m+1,_,a',S',L',?_,h2,h3⟩
  show Bx P (fns P K m) ro (.seq x y) a S=_
  simp only[Bx]
  rw[h1]
theorem ASq{c:Operand}{x y:Code}{b:Bool}(hc:A7 L c=some (.bool b))(h1:b=true→XE P K n ro x L S Q)(h2:b=false→XE P K n ro y L S Q):XE P K n ro (.cond c x y) L S Q:=by
 intro a ha
 cases b with
 |true =>
  obtain⟨m,e,a',S',L',k1,k2,k3⟩:=h1 rfl a ha
  refine⟨m+1,e,a',S',L',?_,k2,k3⟩
  show Bx P (fns P K m) ro (.cond c x y) a S=_
  simp only[Bx,ha.ev hc]
  exact k1
 |false =>
  obtain⟨m,e,a',S',L',k1,k2,k3⟩:=h2 rfl a ha
  refine⟨m+1,e,a',S',L',?_,k2,k3⟩
  show Bx P (fns P K m) ro (.cond c x y) a S=_
  simp only[Bx,ha.ev hc]
  exact k1
def QU(id:Nat)(Q:CV):CV:=fun e L S=>match e with
 | .exit j=>bif Nat.beq j id then Q .normal L S else Q (.exit j) L S
 |e=>Q e L S
theorem ASp{id:Nat}{c:Code}(h:XE P K n ro c L S (QU id Q)):XE P K n ro (.block id c) L S Q:=by
 intro a ha
 obtain⟨m,e,a',S',L',h1,h2,h3⟩:=h a ha
 cases e with
 |exit j =>
  have Nb:bif Nat.beq j id then Q .normal L' S' else Q (.exit j) L' S':=h3
  by_cases hj:j=id
  ·rw[hj,IN]at Nb
   refine⟨m+1,_,a',S',L',?_,h2,Nb⟩
   show Bx P (fns P K m) ro (.block id c) a S=_
   simp only[Bx]
   rw[h1]
   simp only[hj,IN,cond_true]
  rw[MP hj]at Nb
  refine⟨m+1,_,a',S',L',?_,h2,Nb⟩
  show Bx P (fns P K m) ro (.block id c) a S=_
  simp only[Bx]
  rw[h1]
  simp only[MP hj,cond_false]
 |_ =>
  refine⟨m+1,_,a',S',L',?_,h2,h3⟩
  show Bx P (fns P K m) ro (.block id c) a S=_
  simp only[Bx]
  rw[h1]
theorem ASw{c:Code}(h:XE P K n ro c L S fun e L' S'=>(∀l,e≠ .goto l)∧Q e L' S'):XE P K n ro (.scope c) L S Q:=by
 intro a ha
 obtain⟨m,e,a',S',L',h1,h2,h3,h4⟩:=h a ha
 refine⟨m+1,e,a',S',L',?_,h2,h4⟩
 show Bx P (fns P K m) ro (.scope c) a S=_
 simp only[Bx]
 rw[h1]
 cases e with
 |goto l=>exact absurd rfl (h3 l)
 |_=>rfl
def Round(I:Nat→Env→St→Prop)(m:Nat)(Q:CV):CV:=fun e L S=>match e with
 | .normal=>∃k,k<m∧I k L S
 |e=>Q e L S
theorem ASt{c:Code}(I:Nat→Env→St→Prop)(h:∀m L S,I m L S→XE P K n ro c L S (Round I m Q)){m:Nat}(h0:I m L S):XE P K n ro (.loop c) L S Q:=by
 have key:∀k m,m≤k→∀L S,I m L S→XE P K n ro (.loop c) L S Q:=by
  intro k
  induction k with
  |zero =>
   intro m hm L S hi a ha
   obtain⟨j,e,a',S',L',h1,h2,h3⟩:=h m L S hi a ha
   cases e with
   |normal=>obtain⟨k,hk,_⟩:=h3;omega
   |_ =>
    refine⟨j+1,_,a',S',L',?_,h2,h3⟩
    show Bx P (fns P K j) ro (.loop c) a S=_
    simp only[Bx]
    rw[h1]
  |succ k ih =>
   intro m hm L S hi a ha
   obtain⟨j,e,a',S',L',h1,h2,h3⟩:=h m L S hi a ha
   cases e with
   |normal =>
    obtain⟨k',hk,E5⟩:=h3
    obtain⟨j2,e2,a2,S2,L2,k1,k2,k3⟩:=ih k' (by omega) L' S' E5 a' h2
    refine⟨max j j2+1,e2,a2,S2,L2,?_,k2,k3⟩
    show Bx P (fns P K (max j j2)) ro (.loop c) a S=_
    simp only[Bx]
    rw[Zn (Nat.le_max_left j j2) h1]
    exact Zn (Nat.le_max_right j j2) k1
   |_ =>
    refine⟨j+1,_,a',S',L',?_,h2,h3⟩
    show Bx P (fns P K j) ro (.loop c) a S=_
    simp only[Bx]
    rw[h1]
 exact key m m (Nat.le_refl _) L S h0
theorem ASu{id:Nat}{ops:Array Oper}(hc:D' P ops.toList=true)(h:RE P K n ops.toList 0 L S Q):XE P K n ro (.region id ops false) L S Q:=by
 intro a ha
 obtain⟨m,e,a',S',L',h1,h2,h3⟩:=h a ha
 refine⟨m+1,e,a',S',L',?_,h2,h3⟩
 show Bx P (fns P K m) ro (.region id ops false) a S=_
 simp only[Bx,hc,cond_true,cond_false]
 exact h1
theorem Ak{ops:List Oper}{i:Nat}(hi:Nat.ble ops.length i=true)(h:Q .normal L S):RE P K n ops i L S Q:=by
 intro a ha
 refine⟨0,_,a,S,L,?_,ha,h⟩
 rw[List.drop_eq_nil_of_le (Nat.le_of_ble_eq_true hi)]
 rfl
theorem J8{α:Type}:∀(l:List α) (i:Nat) (o:α),nth l i=some o→l.drop i=o::l.drop (i+1)
 | [],i,o,h=>by cases h
 |x::l,0,o,h=>by cases h;rfl
 |x::l,i+1,o,h=>by simpa using J8 l i o h
def Be(ops:List Oper)(L:Env)(o:Oper):Option Bool:=match o.guard with
 |none=>some true
 |some (j,w)=>match nth ops j with
  |some oj=>match oj.dst with
   |some d=>match look L d with
    |some (.bool b)=>some (b==w)
    |some (.tuple _)=>some false
    |_=>none
   |none=>none
  |none=>none
theorem Lm{ops:List Oper}{o:Oper}{a:Ca}(ha:Has n a L){b:Bool}(h:Be ops L o=some b):Du ops a o=b:=by
 unfold Be at h
 unfold Du
 split at h
 ·rename_i hg;rw[hg];exact Option.some.inj h
 rename_i j w hg
 rw[hg]
 simp only
 split at h
 ·rename_i oj hj
  rw[hj]
  simp only
  split at h
  ·rename_i d hd
   rw[hd]
   simp only
   split at h
   ·rename_i x hx
    have hv:=ha.val _ _ hx
    unfold Ca.get at hv
    split at hv
    ·rename_i v IF
     rw[IF]
     subst hv
     exact Option.some.inj h
    cases hv
   ·rename_i x hx
    have hv:=ha.val _ _ hx
    unfold Ca.get at hv
    split at hv
    ·rename_i v IF
     rw[IF]
     subst hv
     exact Option.some.inj h
    rename_i IF
    rw[IF]
    exact Option.some.inj h
   cases h
  cases h
 cases h
theorem OE{ops:List Oper}{i d:Nat}{o:Oper}{v:Value}{S':St}(ho:nth ops i=some o)(hw:Be ops L o=some true)(hd:o.dst=some d)(hn:Nat.blt d n=true)
  (hs:∀a,Has n a L→∃m,CG P (fns P K m) a.ev o.op S=some (.val v,S'))(h:RE P K n ops (i+1) ((d,v)::L) S' Q):RE P K n ops i L S Q:=by
 intro a ha
 obtain⟨m,hs⟩:=hs a ha
 obtain⟨a1,hp,Fi⟩:=ha.put hn v
 obtain⟨m2,e,a',S2,L',h1,h2,h3⟩:=h a1 Fi
 refine⟨max m m2,e,a',S2,L',?_,h2,h3⟩
 rw[J8 _ _ _ ho]
 unfold BT
 rw[Lm ha hw,Mo (K2 (Nat.le_max_left m m2)) hs]
 simp only[cond_true,hd,hp]
 exact YI (K2 (Nat.le_max_right m m2)) _ h1
theorem mu{ops:List Oper}{i:Nat}{o:Oper}{v:Value}{S':St}(ho:nth ops i=some o)(hw:Be ops L o=some true)(hd:o.dst=none)
  (hs:∀a,Has n a L→∃m,CG P (fns P K m) a.ev o.op S=some (.val v,S'))(h:RE P K n ops (i+1) L S' Q):RE P K n ops i L S Q:=by
 intro a ha
 obtain⟨m,hs⟩:=hs a ha
 obtain⟨m2,e,a',S2,L',h1,h2,h3⟩:=h a ha
 refine⟨max m m2,e,a',S2,L',?_,h2,h3⟩
 rw[J8 _ _ _ ho]
 unfold BT
 rw[Lm ha hw,Mo (K2 (Nat.le_max_left m m2)) hs]
 simp only[cond_true,hd,Ca.put]
 exact YI (K2 (Nat.le_max_right m m2)) _ h1
theorem AJy{ops:List Oper}{i d:Nat}{o:Oper}(ho:nth ops i=some o)(hw:Be ops L o=some false)(hd:o.dst=some d)(hn:Nat.blt d n=true)(h:RE P K n ops (i+1) ((d,undef)::L) S Q):RE P K n ops i L S Q:=by
 intro a ha
 obtain⟨a1,hp,Fi⟩:=ha.put hn undef
 obtain⟨m2,e,a',S2,L',h1,h2,h3⟩:=h a1 Fi
 refine⟨m2,e,a',S2,L',?_,h2,h3⟩
 rw[J8 _ _ _ ho]
 unfold BT
 rw[Lm ha hw]
 simp only[cond_false,hd,hp]
 exact h1
theorem AZ{ops:List Oper}{i d:Nat}{b:Bool}(hl:look L d=some (.bool b))(h1:b=true→RE P K n ops i ((d,.bool true)::L) S Q)(h2:b=false→RE P K n ops i ((d,.bool false)::L) S Q):RE P K n ops i L S Q:=by
 have sub:Af ((d,.bool b)::L) L→True:=fun _=>trivial
 cases b with
 |true =>
  intro a ha
  refine h1 rfl a ⟨ha.nn,ha.le,ha.df,fun k v hk=>?_⟩
  rw[LR]at hk
  split at hk
  ·rename_i e;cases hk;rw[e];exact ha.val _ _ hl
  exact ha.val _ _ hk
 |false =>
  intro a ha
  refine h2 rfl a ⟨ha.nn,ha.le,ha.df,fun k v hk=>?_⟩
  rw[LR]at hk
  split at hk
  ·rename_i e;cases hk;rw[e];exact ha.val _ _ hl
  exact ha.val _ _ hk
def found(L:Env)(op:Op):Bool:=op.operands.toList.all fun x=>(A7 L x).isSome
theorem R0{ops:List Oper}{i:Nat}{o:Oper}{t:TypeId}{x y:Operand}{u v:Value}{S':St}(ho:nth ops i=some o)(AV:o.op= .store t x y)(hw:Be ops L o=some true)(hd:o.dst=none)(hx:A7 L x=some u)(hy:A7 L y=some v)
  (hv:Fs P t u v S=some S')(h:RE P K n ops (i+1) L S' Q):RE P K n ops i L S Q :=
 mu (v:=undef) ho hw hd (fun a ha=>⟨0,by rw[AV];unfold CG;simp only[kindOf,KH];rw[ha.ev hx,ha.ev hy,hv]⟩) h
def D3(L:Env):List Operand→Option (List Value)
 | []=>some []
 |x::r=>match A7 L x,D3 L r with
  |some v,some l=>some (v::l)
  |_,_=>none
theorem NW{a:Ca}(ha:Has n a L):∀{l:List Operand} {vs:List Value},D3 L l=some vs→l.map a.ev=vs
 | [],vs,h=>by cases h;rfl
 |x::r,vs,h=>by
  unfold D3 at h
  split at h
  ·rename_i v l h1 h2
   cases h
   rw[List.map_cons,ha.ev h1,NW ha h2]
  cases h
theorem mo{ops:List Oper}{i d:Nat}{o:Oper}{b:Builtin}{as:Array Operand}{ts:Array TypeId}{vs:List Value}{v:Value}{S':St}(ho:nth ops i=some o)(AV:o.op= .call ⟨.builtin b,as,ts⟩)(hw:Be ops L o=some true)(hd:o.dst=some d)(hn:Nat.blt d n=true)
  (hb:kindOf (.call ⟨.builtin b,as,ts⟩)= .Fk)(hx:D3 L as.toList=some vs)(hv:ER P b ts.toList vs S=some (v,S'))(h:RE P K n ops (i+1) ((d,v)::L) S' Q):RE P K n ops i L S Q :=
 OE ho hw hd hn (fun a ha=>⟨0,by rw[AV];unfold CG;rw[hb];simp only[NW ha hx,hv]⟩) h
theorem Rz{ops:List Oper}{i d:Nat}{o:Oper}{s t:TypeId}{x:Operand}{u v:Value}{S':St}(ho:nth ops i=some o)(AV:o.op= .convert s t x)(hw:Be ops L o=some true)(hd:o.dst=some d)(hn:Nat.blt d n=true)
  (hx:A7 L x=some u)(hv:L4 P S s t u=some (v,S'))(h:RE P K n ops (i+1) ((d,v)::L) S' Q):RE P K n ops i L S Q :=
 OE ho hw hd hn (fun a ha=>⟨0,by rw[AV];unfold CG;simp only[kindOf,KH,ha.ev hx,hv]⟩) h
theorem AJw{ops:List Oper}{i d:Nat}{o:Oper}{t:TypeId}{x y:Operand}{u w v:Value}{S':St}(ho:nth ops i=some o)(AV:o.op= .makeSlice t x y)(hw:Be ops L o=some true)(hd:o.dst=some d)(hn:Nat.blt d n=true)
  (hx:A7 L x=some u)(hy:A7 L y=some w)(hv:Uu P t u w S=some (v,S'))(h:RE P K n ops (i+1) ((d,v)::L) S' Q):RE P K n ops i L S Q :=
 OE ho hw hd hn (fun a ha=>⟨0,by rw[AV];unfold CG;simp only[kindOf,KH,ha.ev hx,ha.ev hy,hv]⟩) h
theorem D5{ops:List Oper}{i d:Nat}{o:Oper}{x:Operand}{as:Array Operand}{ts:Array TypeId}{f:FuncId}{fi ca:Array Value}{vs:List Value}(ho:nth ops i=some o)(AV:o.op= .call ⟨.value x,as,ts⟩)(hw:Be ops L o=some true)
  (hd:o.dst=some d)(hn:Nat.blt d n=true)(hx:A7 L x=some (.func (.func f) fi ca))(hv:D3 L as.toList=some vs)
  (h:CC P K f ((fi.toList++vs)++ca.toList) S fun v S'=>RE P K n ops (i+1) ((d,v)::L) S' Q):RE P K n ops i L S Q:=by
 obtain⟨m,v,S',h1,h2⟩:=h
 refine OE ho hw hd hn (fun a ha=>⟨m+1,?_⟩) h2
 rw[AV]
 unfold CG
 simp only[kindOf,Oh,ha.ev hx,NW ha hv]
 have:(fns P K (m+1)).call (.fn (.func f) ca) (fi.toList++vs) S=some (.returned v,S'):=h1
 rw[this]
end
def U1:Nat→List Value→Env
 |_,[]=>[]
 |k,v::l=>(k,v)::U1 (k+1) l
theorem xL:∀(l:List Value) (k i:Nat),look (U1 k l) i=if k≤i then l[i-k]? else none
 | [],k,i=>by
  show none=_
  split<;>simp
 |v::l,k,i=>by
  rw[U1,LR,xL l (k+1) i]
  by_cases h:i=k
  ·subst h;simp
  rw[if_neg h]
  by_cases h2:k≤i
  ·rw[if_pos h2,if_pos (by omega)]
   have:i-k=(i-(k+1))+1:=by omega
   rw[this];simp
  rw[if_neg h2,if_neg (by omega)]
theorem AGF{n:Nat}(hn:n≤256){args:List Value}(hl:args.length≤n):Has n {n:=n,t:=PT.ofList 0 (PT.nil 8) args,defers:=[]} (U1 0 args):=by
 refine⟨rfl,hn,rfl,fun k v hk=>?_⟩
 rw[xL]at hk
 simp only[Nat.zero_le,if_true,Nat.sub_zero]at hk
 unfold Ca.get
 rw[PT.gi _ _ _ _ (by show 0+args.length≤256;omega)]
 have AN:=(List.getElem?_eq_some_iff.1 hk).1
 rw[if_pos ⟨Nat.zero_le _,by omega⟩,Nat.sub_zero,hk]
def Ho(P:Program)(L:Env)(S:St):List ResultVar→Option (List Value)
 | []=>some []
 | .tmp x::r=>match look L x,Ho P L S r with
  |some v,some l=>some (v::l)
  |_,_=>none
 | .cell x e::r=>match look L x with
  |some p=>match De P e p S,Ho P L S r with
   |some v,some l=>some (v::l)
   |_,_=>none
  |none=>none
theorem m9{n:Nat}{a:Ca}{L:Env}{S:St}(ha:Has n a L):∀{rs:List ResultVar} {vs:List Value},Ho P L S rs=some vs→FL P a S rs=some vs
 | [],vs,h=>h
 | .tmp x::r,vs,h=>by
  unfold Ho at h
  split at h
  ·rename_i v l h1 h2
   cases h
   unfold FL
   rw[m9 ha h2,ha.val _ _ h1]
  cases h
 | .cell x e::r,vs,h=>by
  unfold Ho at h
  split at h
  ·rename_i p hp
   split at h
   ·rename_i v l h1 h2
    cases h
    unfold FL
    rw[m9 ha h2,ha.val _ _ hp,h1]
   cases h
  cases h
def Aw:List Value→Value
 | [v]=>v
 |vs=> .tuple vs.toArray
def M9(P:Program)(rs:List ResultVar)(Q:Value→St→Prop):CV:=fun e L S=>match e with
 | .normal=>∃vs,Ho P L S rs=some vs∧Q (Aw vs) S
 | .ret=>∃vs,Ho P L S rs=some vs∧Q (Aw vs) S
 |_=>False
theorem ASH:∀(vs:List Value) (S:St),(match some vs with
  |some [v]=>some (Ending.returned v,S)
  |some vs=>some (Ending.returned (.tuple vs.toArray),S)
  |none=>none)=some (Ending.returned (Aw vs),S)
 | [],_=>rfl
 | [_],_=>rfl
 |_::_::_,_=>rfl
theorem Ce{f:FuncId}{fn:Func}{c:Code}{args:List Value}{S:St}{Q:Value→St→Prop}{n:Nat}(hf:P.funcs[f]?=some fn)(hb:fn.body=some c)(hk:K.call f args S=none)(hd:K.defers f=false)(Ch:(fn.name== "runtime.NumGoroutine")=false)
  (hn:El fn.ntmps args.length=n)(Wh:Nat.ble n 256=true)(h:XE P K n none c (U1 0 args) S (M9 P fn.results.toList Q)):CC P K f args S Q:=by
 have Wh:=Nat.le_of_ble_eq_true Wh
 have hl:args.length≤n:=by
  rw[←hn]
  unfold El
  cases hb:Nat.ble fn.ntmps args.length with
  |true=>exact Nat.le_refl _
  |false =>
   have:¬fn.ntmps≤args.length:=fun e=>by rw[Nat.ble_eq_true_of_le e]at hb;cases hb
   simp only[cond_false]
   omega
 obtain⟨m,e,a',S',L',h1,h2,h3⟩:=h _ (AGF Wh hl)
 have AGI:Nat.blt 256 n=false:=by
  rw[PT.Ga];exact decide_eq_false (by omega)
 have key:∀e,(e= .normal∨e= .ret)→(fns P K m).exec none c {n:=n,t:=PT.ofList 0 (PT.nil 8) args,defers:=[]} S=some (e,a',S')→∀vs,Ho P L' S' fn.results.toList=some vs→Hb P K (fns P K m) f args S=some (.returned (Aw vs),S'):=by
  intro e he hx vs F2
  unfold Hb
  rw[hk]
  simp only[hd,cond_false]
  unfold Kz
  rw[hf]
  simp only[hb,Ch,Bool.false_or,hn,AGI,cond_false,hx]
  rcases he with rfl|rfl<;>(simp only[h2.df,GS,m9 h2 F2];exact ASH vs S')
 cases e with
 |normal=>obtain⟨vs,k1,k2⟩:=h3;exact⟨m,_,S',key _ (.inl rfl) h1 vs k1,k2⟩
 |ret=>obtain⟨vs,k1,k2⟩:=h3;exact⟨m,_,S',key _ (.inr rfl) h1 vs k1,k2⟩
 |_=>exact h3.elim
theorem BA{rs:List ResultVar}{Q:Value→St→Prop}{L:Env}{S:St}{vs:List Value}(h:Ho P L S rs=some vs)(hq:Q (Aw vs) S):M9 P rs Q .ret L S:=⟨vs,h,hq⟩
theorem On{rs:List ResultVar}{Q:Value→St→Prop}{L:Env}{S:St}{vs:List Value}(h:Ho P L S rs=some vs)(hq:Q (Aw vs) S):M9 P rs Q .normal L S:=⟨vs,h,hq⟩
theorem C8{f:FuncId}{args:List Value}{S:St}{Q Q':Value→St→Prop}(h:CC P K f args S Q')(hq:∀v S',Q' v S'→Q v S'):CC P K f args S Q:=by
 obtain⟨m,v,S',h1,h2⟩:=h
 exact⟨m,v,S',h1,hq _ _ h2⟩
def BW(S:St):Prop:= ∀b,S.size≤b→S.get b=none
structure AL(S S':St):Prop where
 le:S.size≤S'.size
 same:∀b,b<S.size→S'.get b=S.get b
 fr:BW S→BW S'
theorem AL.refl(S:St):AL S S:=⟨Nat.le_refl _,fun _ _=>rfl,id⟩
theorem AL.trans{A B C:St}(h:AL A B)(k:AL B C):AL A C:=⟨Nat.le_trans h.1 k.1,fun b hb=>(k.2 b (Nat.lt_of_lt_of_le hb h.1)).trans (h.2 b hb),fun f=>k.3 (h.3 f)⟩
theorem AL.new(S:St)(B:AF):AL S (S.new B).2:=by
 refine⟨Nat.le_succ _,fun b hb=>?_,fun f b hb=>?_⟩
 ·show(⟨S.heap.set S.size (some B),S.size+1⟩:St).get b=_
  simp only[St.get,Cr.Hd]
  rw[if_neg (Nat.ne_of_lt hb)]
 have Bj:S.size+1≤b:=hb
 show(⟨S.heap.set S.size (some B),S.size+1⟩:St).get b=_
 simp only[St.get,Cr.Hd]
 rw[if_neg (by omega)]
 exact f b (by omega)
theorem MA(S:St)(B:AF):(S.new B).2.get S.size=some B:=by
 show(⟨S.heap.set S.size (some B),S.size+1⟩:St).get S.size=_
 simp only[St.get,Cr.Hd,if_true]
theorem AAC(S:St)(B:AF):(S.new B).2.size=S.size+1:=rfl
theorem AL.set{S T:St}(h:AL S T){b:Nat}(hb:S.size≤b)(hT:b<T.size)(B:AF):AL S (T.set b B):=by
 refine⟨h.1,fun x hx=>?_,fun f x hx=>?_⟩
 ·rw[Ee,if_neg (by omega)]
  exact h.2 x hx
 have CS:T.size≤x:=hx
 rw[Ee,if_neg (by omega)]
 exact h.3 f x CS
theorem AL.kill{S T:St}(h:AL S T){l:List Nat}(hl:∀b∈l,S.size≤b):AL S (T.kill l):=by
 refine⟨by rw[PQ];exact h.1,fun x hx=>?_,fun f x hx=>?_⟩
 ·rw[LQ,if_neg (fun e=>by have:=hl x e;omega)]
  exact h.2 x hx
 rw[PQ]at hx
 rw[LQ]
 split
 ·rfl
 exact h.3 f x hx
end Go.Cm
namespace Go.Cm
open Go
variable{P:Program}{K:BX}
section
variable{n:Nat}{ro:Option Nat}{L:Env}{S:St}{Q:CV}{ops:List Oper}{i d:Nat}{o:Oper}
def Rd(P:Program)(n:Nat)(L:Env)(S:St)(o:Oper)(v:Value):Prop:=kindOf o.op= .read∧∀a,Has n a L→CF P a.ev o.op S=some v
theorem AJz{v:Value}(ho:nth ops i=some o)(hw:Be ops L o=some true)(hd:o.dst=some d)(hn:Nat.blt d n=true)(hr:Rd P n L S o v)(h:RE P K n ops (i+1) ((d,v)::L) S Q):RE P K n ops i L S Q :=
 OE ho hw hd hn (fun a ha=>⟨0,by unfold CG;rw[hr.1];simp only;rw[hr.2 a ha]⟩) h
theorem AJm{x:Operand}{v:Value}(AV:o.op= .move x)(hx:A7 L x=some v)
   :Rd P n L S o (v) :=
 ⟨by rw[AV];rfl,fun a ha=>by rw[AV];show some (a.ev x)=_;rw[ha.ev hx]⟩
theorem AJk{x:Operand}{v:Value}(AV:o.op= .assign x)(hx:A7 L x=some v)
   :Rd P n L S o (v) :=
 ⟨by rw[AV];rfl,fun a ha=>by rw[AV];show some (a.ev x)=_;rw[ha.ev hx]⟩
theorem AJp{c x y:Operand}{v:Value}(AV:o.op= .pick c x y)(hc:A7 L c=some (.bool true))(hx:A7 L x=some v)
   :Rd P n L S o (v) :=
 ⟨by rw[AV];rfl,fun a ha=>by rw[AV];simp only[CF,FY,ha.ev hc,ha.ev hx,if_true]⟩
theorem AJo{c x y:Operand}{v:Value}(AV:o.op= .pick c x y)(hc:A7 L c=some (.bool false))(hy:A7 L y=some v)
   :Rd P n L S o (v) :=
 ⟨by rw[AV];rfl,fun a ha=>by rw[AV];simp only[CF,FY,ha.ev hc,ha.ev hy,Bool.false_eq_true,if_false]⟩
theorem Ao{op:BinOp}{t t':TypeId}{x y:Operand}{u w v:Value}(AV:o.op= .binOp op t x y t')(hx:A7 L x=some u)(hy:A7 L y=some w)
  (hv:Fy P op t x y u w=some v):Rd P n L S o (v) :=
 ⟨by rw[AV];rfl,fun a ha=>by rw[AV];simp only[CF,FY,ha.ev hx,ha.ev hy,hv]⟩
theorem BY{op:UnOp}{t:TypeId}{x:Operand}{u v:Value}(AV:o.op= .unOp op t x)(hx:A7 L x=some u)
  (hv:dv op u=some v):Rd P n L S o (v) :=
 ⟨by rw[AV];rfl,fun a ha=>by rw[AV];simp only[CF,FY,ha.ev hx,hv]⟩
theorem CU{t:TypeId}{x:Operand}{u v:Value}(AV:o.op= .load t x)(hx:A7 L x=some u)
  (hv:De P t u S=some v):Rd P n L S o (v) :=
 ⟨by rw[AV];rfl,fun a ha=>by rw[AV];simp only[CF,ha.ev hx,hv]⟩
theorem CM{t:TypeId}{x:Operand}{j:Nat}{u v:Value}(AV:o.op= .fieldAddr t x j)(hx:A7 L x=some u)
  (hv:H4 P t u j=some v):Rd P n L S o (v) :=
 ⟨by rw[AV];rfl,fun a ha=>by rw[AV];simp only[CF,FY,ha.ev hx,hv]⟩
theorem Ea{t:TypeId}{x y:Operand}{u w v:Value}(AV:o.op= .indexAddr t x y)(hx:A7 L x=some u)(hy:A7 L y=some w)
  (hv:G5 P t u w=some v):Rd P n L S o (v) :=
 ⟨by rw[AV];rfl,fun a ha=>by rw[AV];simp only[CF,FY,ha.ev hx,ha.ev hy,hv]⟩
theorem Pe{t:TypeId}{x y:Operand}{u w v:Value}(AV:o.op= .index t x y)(hx:A7 L x=some u)(hy:A7 L y=some w)
  (hv:Nt P t u w=some v):Rd P n L S o (v) :=
 ⟨by rw[AV];rfl,fun a ha=>by rw[AV];simp only[CF,FY,ha.ev hx,ha.ev hy,hv]⟩
theorem AJl{x:Operand}{j:Nat}{vs:Array Value}{v:Value}(AV:o.op= .extract x j)(hx:A7 L x=some (.tuple vs))
  (hv:nth vs.toList j=some v):Rd P n L S o (v) :=
 ⟨by rw[AV];rfl,fun a ha=>by rw[AV];simp only[CF,FY,ha.ev hx,hv]⟩
theorem AJn{x:Operand}{u v:Value}(AV:o.op= .nilCheck x)(hx:A7 L x=some u)
  (hv:Xe u=some v):Rd P n L S o (v) :=
 ⟨by rw[AV];rfl,fun a ha=>by rw[AV];simp only[CF,FY,ha.ev hx,hv]⟩
theorem F8{x:Operand}{t:TypeId}{u v:Value}(AV:o.op= .call ⟨.builtin .len, #[x], #[t]⟩)(hx:A7 L x=some u)
  (hv:Fo P t u S=some v):Rd P n L S o (v) :=
 ⟨by rw[AV];rfl,fun a ha=>by rw[AV];show Fo P t (a.ev x) S=_;rw[ha.ev hx,hv]⟩
def WW(L:Env):Option Operand→Option (Option Value)
 |none=>some none
 |some x=>match A7 L x with
  |some v=>some (some v)
  |none=>none
theorem fo{a:Ca}(ha:Has n a L){x:Option Operand}{v:Option Value}(h:WW L x=some v):x.map a.ev=v:=by
 cases x with
 |none=>cases h;rfl
 |some x =>
  unfold WW at h
  simp only at h
  split at h
  ·rename_i v hv;cases h;simp[ha.ev hv]
  cases h
theorem cT{t:TypeId}{x:Operand}{lo hi mx:Option Operand}{u v:Value}{lv F1 mv:Option Value}(AV:o.op= .slice t x lo hi mx)(hx:A7 L x=some u)
  (h1:WW L lo=some lv)(h2:WW L hi=some F1)(h3:WW L mx=some mv)(hv:Fq P t u lv F1 mv S=some v):Rd P n L S o (v) :=
 ⟨by rw[AV];rfl,fun a ha=>by rw[AV];simp only[CF,ha.ev hx,fo ha h1,fo ha h2,fo ha h3,hv]⟩
def J9(L:Env):List (Nat×Operand)→Option (List (Nat×Value))
 | []=>some []
 |(k,x)::r=>match A7 L x,J9 L r with
  |some v,some l=>some ((k,v)::l)
  |_,_=>none
theorem Zm{a:Ca}(ha:Has n a L):∀{l:List (Nat×Operand)} {vs:List (Nat×Value)},J9 L l=some vs→Jp a.ev l=vs
 | [],vs,h=>by cases h;rfl
 |(k,x)::r,vs,h=>by
  unfold J9 at h
  split at h
  ·rename_i v l h1 h2
   cases h
   have:=Zm ha h2
   unfold Jp at this ⊢
   rw[List.map_cons,ha.ev h1,this]
  cases h
theorem A9{t:TypeId}{ps:Array (Nat×Operand)}{us:List (Nat×Value)}{v:Value}(AV:o.op= .build t ps)(hx:J9 L ps.toList=some us)
  (hv:WD P t us=some v):Rd P n L S o (v) :=
 ⟨by rw[AV];rfl,fun a ha=>by rw[AV];simp only[CF,FY,Zm ha hx,hv]⟩
theorem OD{t:TypeId}{x y:Operand}{ok:Bool}{u w v:Value}(AV:o.op= .lookup t x y ok)(hx:A7 L x=some u)(hy:A7 L y=some w)
  (hv:N3 P t u w ok S=some v):Rd P n L S o (v) :=
 ⟨by rw[AV];rfl,fun a ha=>by rw[AV];simp only[CF,ha.ev hx,ha.ev hy,hv]⟩
theorem AJq{e:TypeId}{z:List Value}(ho:nth ops i=some o)(AV:o.op= .alloc e)(hw:Be ops L o=some true)(hd:o.dst=some d)(hn:Nat.blt d n=true)(hz:zeroOf P e=some z)
  (h:RE P K n ops (i+1) ((d,ptrTo S.size 0)::L) (S.new (.cells z e false true [])).2 Q):RE P K n ops i L S Q :=
 OE ho hw hd hn (fun a _=>⟨0,by rw[AV];unfold CG;simp only[kindOf,DY,hz];rfl⟩) h
theorem AJs{e:TypeId}{x:Operand}{v:Value}(ho:nth ops i=some o)(AV:o.op= .box e x)(hw:Be ops L o=some true)(hd:o.dst=some d)(hn:Nat.blt d n=true)(hx:A7 L x=some v)
  (h:RE P K n ops (i+1) ((d,ptrTo S.size 0)::L) (S.new (.cells (BG v) e false true [])).2 Q):RE P K n ops i L S Q :=
 OE ho hw hd hn (fun a ha=>⟨0,by rw[AV];unfold CG;simp only[kindOf,DY,ha.ev hx];rfl⟩) h
theorem AJu{t elem:TypeId}{len:Nat}{ps:Array (Nat×Operand)}{us:List (Nat×Value)}{ei:TypeInfo}{z:Value}{c:List Value}(ho:nth ops i=some o)(AV:o.op= .buildSlice t len ps)(hw:Be ops L o=some true)(hd:o.dst=some d)(hn:Nat.blt d n=true)
  (hu:P.underlying t=some (.slice elem))(hi:P.info? elem=some ei)(hz:zeroV P elem=some z)(hle:len*ei.size≤1000000)(RV:(BG z).length=ei.size)(hx:J9 L ps.toList=some us)
  (hc:KC (fun i=>some (i*ei.size,ei.size)) (EE len (BG z)) us=some c)
  (h:RE P K n ops (i+1) ((d,.slice (some ⟨S.size,0,none⟩) len len)::L) (S.new (.cells c elem true true [])).2 Q):RE P K n ops i L S Q :=
 OE ho hw hd hn (fun a ha=>⟨0,by rw[AV];unfold CG;simp only[kindOf,DY,hu,hi,hz,Zm ha hx];rw[if_pos ⟨hle,RV⟩];simp only[hc];rfl⟩) h
structure DE where
 j:Nat
 op:Op
 v:Value
 L:Env
 fr:Option (Nat×List Value×TypeId×Bool)
def p6(n:Nat)(c:DD)(e:DE):Prop:=match e.fr with
 |none=>∃a,Has n a e.L∧c= .read a e.op e.v
 |some (b,cs,t,r)=>c= .cells b cs t r
def HY(P:Program)(n:Nat)(S':St)(e:DE):Prop:=match e.fr with
 |none=>(∀a,Has n a e.L→CF P a.ev e.op S'=some e.v)∧CP 100000 e.v e.v=true
 |some (b,cs,t,r)=>S'.get b=some (.cells cs t r true [])∧Gp 100000 cs cs=true
def Yw(n:Nat):List (Nat×DD)→List DE→Prop
 | [],[]=>True
 |x::l,e::r=>(x.1=e.j∧p6 n x.2 e)∧Yw n l r
 |_,_=>False
def RP(P:Program)(K:BX)(n:Nat)(ops:List Oper)(AJ:List Nat)(pl:List (Oper×Nat))(k:Nat)(E:List DE)(L:Env)(S:St)(Q:CV):Prop :=
 ∀Ah,Yw n Ah E→∀a,Has n a L→∃m e a' S' L',DT P (fns P K m) ops AJ (pl.drop k) Ah a S=some (e,a',S')∧Has n a' L'∧Q e L' S'
section
variable{AJ:List Nat}{pl:List (Oper×Nat)}{k j:Nat}{E:List DE}
theorem Hr(hi:Nat.ble pl.length k=true)(h:Q .normal L S):RP P K n ops AJ pl k E L S Q:=by
 intro Ah _ a ha
 refine⟨0,_,a,S,L,?_,ha,h⟩
 rw[List.drop_eq_nil_of_le (Nat.le_of_ble_eq_true hi)]
 rfl
theorem Ep{b:Bool}(hl:look L d=some (.bool b))(h1:b=true→RP P K n ops AJ pl k E ((d,.bool true)::L) S Q)(h2:b=false→RP P K n ops AJ pl k E ((d,.bool false)::L) S Q):RP P K n ops AJ pl k E L S Q:=by
 cases b with
 |true =>
  intro Ah hc a ha
  refine h1 rfl Ah hc a ⟨ha.nn,ha.le,ha.df,fun k v hk=>?_⟩
  rw[LR]at hk
  split at hk
  ·rename_i e;cases hk;rw[e];exact ha.val _ _ hl
  exact ha.val _ _ hk
 |false =>
  intro Ah hc a ha
  refine h2 rfl Ah hc a ⟨ha.nn,ha.le,ha.df,fun k v hk=>?_⟩
  rw[LR]at hk
  split at hk
  ·rename_i e;cases hk;rw[e];exact ha.val _ _ hl
  exact ha.val _ _ hk
theorem AKR(ho:nth pl k=some (o,j))(hw:Be ops L o=some false)(hd:o.dst=some d)(hn:Nat.blt d n=true)(h:RP P K n ops AJ pl (k+1) E ((d,undef)::L) S Q):RP P K n ops AJ pl k E L S Q:=by
 intro Ah hc a ha
 obtain⟨a1,hp,Fi⟩:=ha.put hn undef
 obtain⟨m2,e,a',S2,L',h1,h2,h3⟩:=h Ah hc a1 Fi
 refine⟨m2,e,a',S2,L',?_,h2,h3⟩
 rw[J8 _ _ _ ho]
 unfold DT
 rw[Lm ha hw]
 simp only[cond_false,hd,hp]
 exact h1
theorem AKS{v:Value}(ho:nth pl k=some (o,j))(hw:Be ops L o=some true)(hd:o.dst=some d)(hn:Nat.blt d n=true)(hl:looks o.op=false)(hr:Rd P n L S o v)(h:RP P K n ops AJ pl (k+1) E ((d,v)::L) S Q):RP P K n ops AJ pl k E L S Q:=by
 intro Ah hc a ha
 obtain⟨a1,hp,Fi⟩:=ha.put hn v
 obtain⟨m2,e,a',S2,L',h1,h2,h3⟩:=h Ah hc a1 Fi
 refine⟨m2,e,a',S2,L',?_,h2,h3⟩
 rw[J8 _ _ _ ho]
 unfold DT
 rw[Lm ha hw]
 simp only[cond_true,hr.1,hr.2 a ha,hd,hp,hl,cond_false]
 exact h1
theorem AKQ{v:Value}(ho:nth pl k=some (o,j))(hw:Be ops L o=some true)(hd:o.dst=some d)(hn:Nat.blt d n=true)(hl:looks o.op=true)(hr:Rd P n L S o v)(h:RP P K n ops AJ pl (k+1) (⟨j,o.op,v,L,none⟩::E) ((d,v)::L) S Q):RP P K n ops AJ pl k E L S Q:=by
 intro Ah hc a ha
 obtain⟨a1,hp,Fi⟩:=ha.put hn v
 obtain⟨m2,e,a',S2,L',h1,h2,h3⟩:=h ((j,.read a o.op v)::Ah) ⟨⟨rfl,a,ha,rfl⟩,hc⟩ a1 Fi
 refine⟨m2,e,a',S2,L',?_,h2,h3⟩
 rw[J8 _ _ _ ho]
 unfold DT
 rw[Lm ha hw]
 simp only[cond_true,hr.1,hr.2 a ha,hd,hp,hl]
 exact h1
def FP(P:Program)(n:Nat)(S':St)(m:Nat):List DE→Prop
 | []=>True
 |e::r=>(m.testBit e.j=false→HY P n S' e)∧FP P n S' m r
def left(m:Nat):List DE→List DE
 | []=>[]
 |e::r=>bif m.testBit e.j then left m r else e::left m r
theorem di{S':St}{m:Nat}:∀{Ah:List (Nat×DD)} {E:List DE},Yw n Ah E→FP P n S' m E→((Ah.filter fun x=>!m.testBit x.1).all fun x=>x.2.ok P S')=true∧Yw n (Ah.filter fun x=>!m.testBit x.1) (left m E)
 | [],[],_,_=>⟨rfl,trivial⟩
 |x::l,e::r,⟨⟨h1,h2⟩,h3⟩,⟨k1,k2⟩=>by
  obtain⟨i1,i2⟩:=di h3 k2
  unfold left
  cases hb:m.testBit e.j with
  |true =>
   have hf:(x::l).filter (fun x=>!m.testBit x.1)=l.filter (fun x=>!m.testBit x.1):=by
    rw[List.filter_cons,h1,hb];rfl
   rw[hf]
   exact⟨i1,i2⟩
  |false =>
   have hf:(x::l).filter (fun x=>!m.testBit x.1)=x::l.filter (fun x=>!m.testBit x.1):=by
    rw[List.filter_cons,h1,hb];rfl
   rw[hf]
   have q:=k1 hb
   refine⟨?_,⟨h1,h2⟩,i2⟩
   rw[List.all_cons,i1,Bool.and_true]
   unfold p6 at h2
   unfold HY at q
   cases hf:e.fr with
   |none =>
    rw[hf]at h2 q
    obtain⟨a,ha,h2⟩:=h2
    obtain⟨q1,q2⟩:=q
    rw[h2]
    simp only[DD.ok,q1 a ha,q2]
   |some w =>
    obtain⟨b,cs,t,r⟩:=w
    rw[hf]at h2 q
    simp only at h2 q
    rw[h2]
    simp only[DD.ok,q.1,q.2,IN,beq_self_eq_true,Bool.and_self]
 | [],_::_,h,_=>h.elim
 |_::_,[],h,_=>h.elim
theorem AKO{x:Operand}{as:Array Operand}{ts:Array TypeId}{f:FuncId}{fi ca:Array Value}{vs:List Value}(ho:nth pl k=some (o,j))(AV:o.op= .call ⟨.value x,as,ts⟩)(hw:Be ops L o=some true)
  (hd:o.dst=some d)(hn:Nat.blt d n=true)(hx:A7 L x=some (.func (.func f) fi ca))(hv:D3 L as.toList=some vs)
  (h:CC P K f ((fi.toList++vs)++ca.toList) S fun v S'=>FP P n S' ((nth AJ j).getD 0) E∧RP P K n ops AJ pl (k+1) (left ((nth AJ j).getD 0) E) ((d,v)::L) S' Q):RP P K n ops AJ pl k E L S Q:=by
 obtain⟨m,v,S',h1,h2,h3⟩:=h
 intro Ah hc a ha
 obtain⟨a1,hp,Fi⟩:=ha.put hn v
 obtain⟨s1,s2⟩:=di hc h2
 obtain⟨m2,e,a',S2,L',k1,k2,k3⟩:=h3 _ s2 a1 Fi
 refine⟨max (m+1) m2,e,a',S2,L',?_,k2,k3⟩
 rw[J8 _ _ _ ho]
 unfold DT
 have AGa:kindOf o.op= .Fk:=by rw[AV];rfl
 have jR:CG P (fns P K (m+1)) a.ev o.op S=some (.val v,S'):=by
  rw[AV]
  unfold CG
  simp only[kindOf,Oh,ha.ev hx,NW ha hv]
  have:(fns P K (m+1)).call (.fn (.func f) ca) (fi.toList++vs) S=some (.returned v,S'):=h1
  rw[this]
 rw[Lm ha hw,AGa,Mo (K2 (Nat.le_max_left (m+1) m2)) jR]
 simp only[cond_true,hd,hp,s1]
 exact Pg (K2 (Nat.le_max_right (m+1) m2)) _ k1
end
section
variable{AJ:List Nat}{pl:List (Oper×Nat)}{k j:Nat}{E:List DE}
theorem AKK{e:TypeId}{z:List Value}(ho:nth pl k=some (o,j))(AV:o.op= .alloc e)(hw:Be ops L o=some true)(hd:o.dst=some d)(hn:Nat.blt d n=true)(hz:zeroOf P e=some z)(hf:S.get S.size=none)
  (h:RP P K n ops AJ pl (k+1) (⟨j,o.op,undef,L,some (S.size,z,e,false)⟩::E) ((d,ptrTo S.size 0)::L) (S.new (.cells z e false true [])).2 Q):RP P K n ops AJ pl k E L S Q:=by
 intro Ah hc a ha
 obtain⟨a1,hp,Fi⟩:=ha.put hn (ptrTo S.size 0)
 obtain⟨m2,e2,a',S2,L',h1,h2,h3⟩:=h ((j,.cells S.size z e false)::Ah) ⟨⟨rfl,rfl⟩,hc⟩ a1 Fi
 refine⟨m2,e2,a',S2,L',?_,h2,h3⟩
 rw[J8 _ _ _ ho]
 unfold DT
 have hk:kindOf o.op= .fresh:=by rw[AV];rfl
 have Cg:DY P a.ev o.op S=some (ptrTo S.size 0,(S.new (.cells z e false true [])).2):=by rw[AV];simp only[DY,hz];rfl
 have Cz:Kx (S.new (.cells z e false true [])).2 S.size=some (.cells S.size z e false):=by unfold Kx;rw[MA]
 rw[Lm ha hw,hk,Cg]
 simp only[cond_true,hd,hp,Cz,hf]
 exact h1
theorem AKP{v:Value}{S':St}(ho:nth pl k=some (o,j))(hk:kindOf o.op= .Fk)(hw:Be ops L o=some true)(hd:o.dst=none)
  (hs:∀a,Has n a L→∃m,CG P (fns P K m) a.ev o.op S=some (.val v,S'))(BL:FP P n S' ((nth AJ j).getD 0) E)(h:RP P K n ops AJ pl (k+1) (left ((nth AJ j).getD 0) E) L S' Q):RP P K n ops AJ pl k E L S Q:=by
 intro Ah hc a ha
 obtain⟨m,hs⟩:=hs a ha
 obtain⟨s1,s2⟩:=di hc BL
 obtain⟨m2,e,a',S2,L',k1,k2,k3⟩:=h _ s2 a ha
 refine⟨max m m2,e,a',S2,L',?_,k2,k3⟩
 rw[J8 _ _ _ ho]
 unfold DT
 rw[Lm ha hw,hk,Mo (K2 (Nat.le_max_left m m2)) hs]
 simp only[cond_true,hd,Ca.put,s1]
 exact Pg (K2 (Nat.le_max_right m m2)) _ k1
theorem YG{v:Value}{S':St}(ho:nth pl k=some (o,j))(hk:kindOf o.op= .Fk)(hw:Be ops L o=some true)(hd:o.dst=some d)(hn:Nat.blt d n=true)
  (hs:∀a,Has n a L→∃m,CG P (fns P K m) a.ev o.op S=some (.val v,S'))(BL:FP P n S' ((nth AJ j).getD 0) E)(h:RP P K n ops AJ pl (k+1) (left ((nth AJ j).getD 0) E) ((d,v)::L) S' Q):RP P K n ops AJ pl k E L S Q:=by
 intro Ah hc a ha
 obtain⟨m,hs⟩:=hs a ha
 obtain⟨a1,hp,Fi⟩:=ha.put hn v
 obtain⟨s1,s2⟩:=di hc BL
 obtain⟨m2,e,a',S2,L',k1,k2,k3⟩:=h _ s2 a1 Fi
 refine⟨max m m2,e,a',S2,L',?_,k2,k3⟩
 rw[J8 _ _ _ ho]
 unfold DT
 rw[Lm ha hw,hk,Mo (K2 (Nat.le_max_left m m2)) hs]
 simp only[cond_true,hd,hp,s1]
 exact Pg (K2 (Nat.le_max_right m m2)) _ k1
theorem nN{v:Value}{c:List Value}{e:TypeId}{r:Bool}(ho:nth pl k=some (o,j))(hk:kindOf o.op= .fresh)(hw:Be ops L o=some true)(hd:o.dst=some d)(hn:Nat.blt d n=true)
  (Cg:∀a,Has n a L→DY P a.ev o.op S=some (v,(S.new (.cells c e r true [])).2))(hf:S.get S.size=none)
  (h:RP P K n ops AJ pl (k+1) (⟨j,o.op,undef,L,some (S.size,c,e,r)⟩::E) ((d,v)::L) (S.new (.cells c e r true [])).2 Q):RP P K n ops AJ pl k E L S Q:=by
 intro Ah hc a ha
 obtain⟨a1,hp,Fi⟩:=ha.put hn v
 obtain⟨m2,e2,a',S2,L',h1,h2,h3⟩:=h ((j,.cells S.size c e r)::Ah) ⟨⟨rfl,rfl⟩,hc⟩ a1 Fi
 refine⟨m2,e2,a',S2,L',?_,h2,h3⟩
 rw[J8 _ _ _ ho]
 unfold DT
 have Cz:Kx (S.new (.cells c e r true [])).2 S.size=some (.cells S.size c e r):=by unfold Kx;rw[MA]
 rw[Lm ha hw,hk,Cg a ha]
 simp only[cond_true,hd,hp,Cz,hf]
 exact h1
theorem R3{t:TypeId}{x y:Operand}{u v:Value}{S':St}(ho:nth pl k=some (o,j))(AV:o.op= .store t x y)(hw:Be ops L o=some true)(hd:o.dst=none)(hx:A7 L x=some u)(hy:A7 L y=some v)
  (hv:Fs P t u v S=some S')(BL:FP P n S' ((nth AJ j).getD 0) E)(h:RP P K n ops AJ pl (k+1) (left ((nth AJ j).getD 0) E) L S' Q):RP P K n ops AJ pl k E L S Q :=
 AKP (v:=undef) ho (by rw[AV];rfl) hw hd (fun a ha=>⟨0,by rw[AV];unfold CG;simp only[kindOf,KH];rw[ha.ev hx,ha.ev hy,hv]⟩) BL h
end
def Jq(ops:List Oper):List Nat→List (Oper×Nat)
 | []=>[]
 |i::r=>match nth ops i with
  |some o=>(o,i)::Jq ops r
  |none=>[]
theorem ASr{id:Nat}{ops:Array Oper}{idx:List Nat}(hc:D' P ops.toList=true)(hp:Rx ops.toList=some (Db ops.toList [],Jq ops.toList idx))(h:RP P K n ops.toList (Db ops.toList []) (Jq ops.toList idx) 0 [] L S Q) :
  XE P K n ro (.region id ops true) L S Q:=by
 intro a ha
 obtain⟨m,e,a',S',L',h1,h2,h3⟩:=h [] trivial a ha
 refine⟨m+1,e,a',S',L',?_,h2,h3⟩
 show Bx P (fns P K m) ro (.region id ops true) a S=_
 simp only[Bx,hc,cond_true,OH,hp]
 exact h1
end
def pA:Code→Code
 | .seq a _=>a
 | .cond _ a _=>a
 | .block _ c=>c
 | .loop c=>c
 | .scope c=>c
 |c=>c
def pB:Code→Code
 | .seq _ b=>b
 | .cond _ _ b=>b
 |c=>c
def pC:Code→Operand
 | .cond c _ _=>c
 |_=> .const undef
def pI:Code→Nat
 | .block i _=>i
 | .exit i=>i
 |_=>0
def pO:Code→List Oper
 | .region _ ops _=>ops.toList
 |_=>[]
def pK:Code→Nat
 | .skip=>0
 | .region _ _ false=>1
 | .region _ _ true=>2
 | .seq _ _=>3
 | .cond _ _ _=>4
 | .block _ _=>5
 | .loop _=>6
 | .exit _=>7
 | .scope _=>8
 | .ret=>9
 |_=>10
section
variable{n:Nat}{ro:Option Nat}{L:Env}{S:St}{Q:CV}{c:Code}
theorem Ar(hk:pK c=0)(h:Q .normal L S):XE P K n ro c L S Q:=by
 cases c<;>first|exact ASy h|(rename_i d;cases d<;>cases hk)|cases hk
theorem Gt(hk:pK c=9)(h:Q .ret L S):XE P K n ro c L S Q:=by
 cases c<;>first|exact ASv h|(rename_i d;cases d<;>cases hk)|cases hk
theorem HB(hk:pK c=7)(h:Q (.exit (pI c)) L S):XE P K n ro c L S Q:=by
 cases c<;>first|exact ASs h|(rename_i d;cases d<;>cases hk)|cases hk
theorem AG(hk:pK c=3)(h:XE P K n ro (pA c) L S (Lq P K n ro (pB c) Q)):XE P K n ro c L S Q:=by
 cases c<;>first|exact ASx h|(rename_i d;cases d<;>cases hk)|cases hk
theorem DQ{b:Bool}(hk:pK c=4)(hc:A7 L (pC c)=some (.bool b))(h1:b=true→XE P K n ro (pA c) L S Q)(h2:b=false→XE P K n ro (pB c) L S Q):XE P K n ro c L S Q:=by
 cases c<;>first|exact ASq hc h1 h2|(rename_i d;cases d<;>cases hk)|cases hk
theorem Yn(hk:pK c=4)(hc:A7 L (pC c)=some (.bool true))(h:XE P K n ro (pA c) L S Q):XE P K n ro c L S Q:=DQ hk hc (fun _=>h) (fun e=>by cases e)
theorem ASz(hk:pK c=4)(hc:A7 L (pC c)=some (.bool false))(h:XE P K n ro (pB c) L S Q):XE P K n ro c L S Q:=DQ hk hc (fun e=>by cases e) (fun _=>h)
theorem Az(hk:pK c=5)(h:XE P K n ro (pA c) L S (QU (pI c) Q)):XE P K n ro c L S Q:=by
 cases c<;>first|exact ASp h|(rename_i d;cases d<;>cases hk)|cases hk
theorem A2(hk:pK c=6)(I:Nat→Env→St→Prop)(h:∀m L S,I m L S→XE P K n ro (pA c) L S (Round I m Q)){m:Nat}(h0:I m L S):XE P K n ro c L S Q:=by
 cases c<;>first|exact ASt I h h0|(rename_i d;cases d<;>cases hk)|cases hk
theorem JG(hk:pK c=1)(hc:D' P (pO c)=true)(h:RE P K n (pO c) 0 L S Q):XE P K n ro c L S Q:=by
 cases c<;>first|(rename_i d;cases d<;>first|exact ASu hc h|cases hk)|cases hk
theorem BC{idx:List Nat}(hk:pK c=2)(hc:D' P (pO c)=true)(hp:Rx (pO c)=some (Db (pO c) [],Jq (pO c) idx))(h:RP P K n (pO c) (Db (pO c) []) (Jq (pO c) idx) 0 [] L S Q):XE P K n ro c L S Q:=by
 cases c<;>first|(rename_i d;cases d<;>first|exact ASr hc hp h|cases hk)|cases hk
end
section
variable{S:St}
theorem AFU{t:TypeId}{fs:Array Field}{f:Field}{j b o z:Nat}(hu:P.underlying t=some (.struct fs))(hf:nth fs.toList j=some f)(hz:A5 P f.type=some (z+1)) :
  H4 P t (.pointer (some ⟨b,o,none⟩)) j=some (ptrTo b (o+f.offset)):=by
 unfold H4
 simp only[hu,hf,hz]
theorem C4{t:TypeId}{b o:Nat}{c:List Value}{e:TypeId}{row own:Bool}{kin:List Nat}{v:Value}(ha:Fv P t=some false)(hb:S.get b=some (.cells c e row own kin))(hv:nth c o=some v) :
  De P t (.pointer (some ⟨b,o,none⟩)) S=some v:=by
 unfold De
 simp only[hb,Em,ha,hv]
theorem CD{t:TypeId}{b o z:Nat}{c l:List Value}{e:TypeId}{row own:Bool}{kin:List Nat}(ha:Fv P t=some true)(hz:A5 P t=some z)(hb:S.get b=some (.cells c e row own kin))(hv:takeN z (CH o c)=some l) :
  De P t (.pointer (some ⟨b,o,none⟩)) S=some (AX l):=by
 unfold De
 simp only[hb,Em,ha,hz,hv]
theorem F3{t e:TypeId}{b o len cap z:Nat}{k:IntKind}{i:Int}(hu:P.underlying t=some (.slice e))(hz:A5 P e=some z)(hi:0≤i∧i<len) :
  G5 P t (.slice (some ⟨b,o,none⟩) len cap) (.int k i)=some (ptrTo b (o+i.toNat*z)):=by
 unfold G5
 simp only[hu,hz]
 rw[if_pos hi]
theorem AHZ{t e:TypeId}{b o len z:Nat}{k:IntKind}{i:Int}(hu:P.underlying t=some (.array len e))(hz:A5 P e=some z)(hi:0≤i∧i<len) :
  G5 P t (.pointer (some ⟨b,o,none⟩)) (.int k i)=some (ptrTo b (o+i.toNat*z)):=by
 unfold G5
 simp only[hu,hz]
 rw[if_pos hi]
theorem RW{t:TypeId}{s:ByteArray}{k:IntKind}{i:Int}{c:UInt8}(hu:P.underlying t=some .string)(hi:0≤i)(hc:nth s.data.toList i.toNat=some c):Nt P t (.string s) (.int k i)=some (.int .u8 c.toNat):=by
 unfold Nt
 simp only[hu]
 rw[if_pos hi]
 simp only[hc]
theorem AHd{t e:TypeId}{cs:Array Value}{len z:Nat}{k:IntKind}{i:Int}{v:Value}(hu:P.underlying t=some (.array len e))(hz:A5 P e=some z)(ha:Fv P e=some false)(hi:0≤i∧i<len)(hv:nth cs.toList (i.toNat*z)=some v) :
  Nt P t (.agg cs) (.int k i)=some v:=by
 unfold Nt
 simp only[hu]
 rw[if_pos hi]
 simp only[hz,Em,ha,hv]
theorem IK{t e:TypeId}{a:Option Addr}{n c:Nat}(hu:P.underlying t=some (.slice e)):Fo P t (.slice a n c) S=some (.int .i64 n):=by
 unfold Fo
 simp only[hu]
theorem Uo{t:TypeId}{s:ByteArray}(hu:P.underlying t=some .string):Fo P t (.string s) S=some (.int .i64 s.data.toList.length):=by
 unfold Fo
 simp only[hu]
end
end Go.Cm
namespace Go.Cm
open Go
variable{P:Program}{K:BX}
def DW(S:St)(b:Nat)(e:TypeId)(c:List Value):Prop:=b<S.size∧∃own kin,S.get b=some (.cells c e true own kin)
def RK(S S':St):Prop:=S.size≤S'.size∧∀b e c,DW S b e c→DW S' b e c
theorem RK.refl(S:St):RK S S:=⟨Nat.le_refl _,fun _ _ _ h=>h⟩
theorem RK.trans{A B C:St}(h:RK A B)(k:RK B C):RK A C:=⟨Nat.le_trans h.1 k.1,fun b e c hb=>k.2 b e c (h.2 b e c hb)⟩
theorem AL.rk{S S':St}(h:AL S S'):RK S S':=⟨h.1,fun b e c ⟨hb,own,kin,hg⟩=>⟨Nat.lt_of_lt_of_le hb h.1,own,kin,by rw[h.2 b hb];exact hg⟩⟩
def Nu:AF→Bool
 | .cells _ _ r _ _=>r
 |_=>false
theorem AKE{S:St}{b:Nat}{x y:AF}(hx:S.get b=some x)(hr:Nu x=false):RK S (S.set b y):=by
 refine⟨Nat.le_refl _,fun j e c ⟨hj,own,kin,hg⟩=>⟨hj,own,kin,?_⟩⟩
 rw[Ee]
 by_cases h:j=b
 ·subst h
  rw[hx]at hg
  cases hg
  cases hr
 rw[if_neg h];exact hg
theorem AKD{S:St}{b:Nat}{c:List Value}{e:TypeId}{o o':Bool}{k k':List Nat}(hx:S.get b=some (.cells c e true o k)):RK S (S.set b (.cells c e true o' k')):=by
 refine⟨Nat.le_refl _,fun j e2 d ⟨hj,own,kin,hg⟩=>?_⟩
 by_cases h:j=b
 ·subst h
  rw[hx]at hg
  cases hg
  exact⟨hj,_,_,by rw[Ee,if_pos rfl]⟩
 exact⟨hj,_,_,by rw[Ee,if_neg h];exact hg⟩
structure Gr where
 v:Value
 e:TypeId
 z:Nat
 c:List Value
 n:Nat
def Am(S0 S:St)(g:Gr):Prop:=(g.v= .slice none 0 0∧g.c= []∧g.n=0) ∨
 ∃b kin,g.v= .slice (some ⟨b,0,none⟩) g.n g.n∧S0.size≤b∧b<S.size∧S.get b=some (.cells g.c g.e true true kin)∧g.c.length=g.n*g.z
theorem Am.AD{S0 S S':St}{g:Gr}(h:Am S0 S g)(hk:AL S S'):Am S0 S' g:=by
 rcases h with h|⟨b,kin,h1,h2,h3,h4,h5⟩
 ·exact .inl h
 exact .inr ⟨b,kin,h1,h2,Nat.lt_of_lt_of_le h3 hk.1,(hk.2 b h3).trans h4,h5⟩
theorem Am.set{S0 S:St}{g:Gr}(h:Am S0 S g){b:Nat}{x y:AF}(hx:S.get b=some x)(hr:Nu x=false):Am S0 (S.set b y) g:=by
 rcases h with h|⟨b2,kin,h1,h2,h3,h4,h5⟩
 ·exact .inl h
 refine .inr ⟨b2,kin,h1,h2,h3,?_,h5⟩
 rw[Ee,if_neg]
 ·exact h4
 rintro rfl
 rw[hx]at h4
 cases h4
 cases hr
theorem Am.row{S0 S:St}{g:Gr}(h:Am S0 S g):(g.v= .slice none 0 0∧g.c= []∧g.n=0)∨∃b,g.v= .slice (some ⟨b,0,none⟩) g.n g.n∧DW S b g.e g.c:=by
 rcases h with h|⟨b,kin,h1,h2,h3,h4,h5⟩
 ·exact .inl h
 exact .inr ⟨b,h1,h3,_,_,h4⟩
structure AE(S0:St)(Ts:List St)(S:St)(l:List (Nat×AF))(gs:List Gr):Prop where
 AD:AL S0 S
 nd:(l.map (·.1)).Nodup
 at_:∀b x,(b,x)∈l→S.get b=some x∧S0.size≤b∧b<S.size
 rk:∀T,T∈Ts→RK T S
 gr:∀g,g∈gs→Am S0 S g
abbrev BE(S0:St)(Ts:List St)(S:St)(l:List (Nat×AF)):Prop:=AE S0 Ts S l []
theorem BV{α:Type}:∀{l:List α} {k:Nat} {x:α},nth l k=some x→x∈l
 | [],_,_,h=>by cases h
 |y::l,0,x,h=>by cases h;exact List.mem_cons_self ..
 |y::l,k+1,x,h=>List.mem_cons_of_mem _ (BV (l:=l) (k:=k) h)
section
variable{S0 S:St}{Ts:List St}{l:List (Nat×AF)}{gs:List Gr}
theorem BE.start(S:St):BE S [S] S []:=⟨AL.refl S,List.nodup_nil,fun _ _ h=>(List.not_mem_nil h).elim,fun T h=>by rw[List.mem_singleton.1 h];exact RK.refl _,fun _ h=>(List.not_mem_nil h).elim⟩
theorem AE.get(h:AE S0 Ts S l gs)(k:Nat){b:Nat}{x:AF}(hk:nth l k=some (b,x)):S.get b=some x:=(h.at_ b x (BV hk)).1
theorem AE.mark(h:AE S0 Ts S l gs):AE S0 (S::Ts) S l gs:=⟨h.AD,h.nd,h.at_,fun T ht=>by
 rcases List.mem_cons.1 ht with rfl|ht
 ·exact RK.refl _
 exact h.rk T ht,h.gr⟩
theorem AE.since(h:AE S0 Ts S l gs)(k:Nat){T:St}(hk:nth Ts k=some T):RK T S:=h.rk T (BV hk)
theorem AE.marks(h:AE S0 Ts S l gs){Us:List St}(hu:∀T,T∈Us→T∈Ts):AE S0 Us S l gs:=⟨h.AD,h.nd,h.at_,fun T ht=>h.rk T (hu T ht),h.gr⟩
theorem AE.sub(h:AE S0 Ts S l gs){l':List (Nat×AF)}(hs:l'.Sublist l):AE S0 Ts S l' gs:=⟨h.AD,(hs.map (·.1)).nodup h.nd,fun b x hx=>h.at_ b x (hs.subset hx),h.rk,h.gr⟩
theorem AE.tail(h:AE S0 Ts S l gs):AE S0 Ts S l.tail gs:=h.sub (List.tail_sublist l)
theorem AE.new(h:AE S0 Ts S l gs)(x:AF):AE S0 Ts (S.new x).2 ((S.size,x)::l) gs:=by
 refine⟨h.AD.trans (AL.new S x),?_,fun b y hy=>?_,fun T ht=>(h.rk T ht).trans (AL.new S x).rk,fun g hg=>(h.gr g hg).AD (AL.new S x)⟩
 ·rw[List.map_cons,List.nodup_cons]
  refine⟨fun hm=>?_,h.nd⟩
  obtain⟨⟨b,y⟩,hb,e⟩:=List.mem_map.1 hm
  have:=(h.at_ b y hb).2.2
  simp only at e
  omega
 rcases List.mem_cons.1 hy with e|hy
 ·cases e
  exact⟨MA S x,h.AD.1,by rw[AAC];omega⟩
 obtain⟨h1,h2,h3⟩:=h.at_ b y hy
 exact⟨by rw[(AL.new S x).2 b h3];exact h1,h2,by rw[AAC];omega⟩
theorem AE.call(h:AE S0 Ts S l gs){S':St}(hk:AL S S'):AE S0 Ts S' l gs :=
 ⟨h.AD.trans hk,h.nd,fun b x hx=>by
  obtain⟨h1,h2,h3⟩:=h.at_ b x hx
  exact⟨by rw[hk.2 b h3];exact h1,h2,Nat.lt_of_lt_of_le h3 hk.1⟩,fun T ht=>(h.rk T ht).trans hk.rk,fun g hg=>(h.gr g hg).AD hk⟩
theorem AE.add(h:AE S0 Ts S l gs){S1:St}{b:Nat}{x:AF}(hl:∀c y,(c,y)∈l→c<S1.size)(h0:AL S0 S1)(hb:S1.size≤b)(hs:b<S.size)(hg:S.get b=some x):AE S0 Ts S ((b,x)::l) gs:=by
 refine⟨h.AD,?_,fun c y hy=>?_,h.rk,h.gr⟩
 ·rw[List.map_cons,List.nodup_cons]
  refine⟨fun hm=>?_,h.nd⟩
  obtain⟨⟨c,y⟩,hc,e⟩:=List.mem_map.1 hm
  have:=hl c y hc
  simp only at e
  omega
 rcases List.mem_cons.1 hy with e|hy
 ·cases e
  exact⟨hg,Nat.le_trans h0.1 hb,hs⟩
 exact h.at_ c y hy
theorem AE.below(h:AE S0 Ts S l gs):∀c y,(c,y)∈l→c<S.size:=fun c y hc=>(h.at_ c y hc).2.2
def Js:Nat→AF→List (Nat×AF)→List (Nat×AF)
 |0,y,(b,_)::l=>(b,y)::l
 |k+1,y,p::l=>p::Js k y l
 |_,_,[]=>[]
theorem me:∀(k:Nat) (y:AF) (l:List (Nat×AF)),(Js k y l).map (·.1)=l.map (·.1)
 |0,y,(b,_)::l=>rfl
 |k+1,y,p::l=>by simp only[Js,List.map_cons,me k y l]
 |0,_,[]=>rfl
 |_+1,_,[]=>rfl
theorem mf:∀{k:Nat} {y:AF} {l:List (Nat×AF)} {b:Nat} {x:AF},nth l k=some (b,x)→(l.map (·.1)).Nodup→∀c z,(c,z)∈Js k y l→(c=b∧z=y)∨(c≠b∧(c,z)∈l)
 |0,y,(b0,x0)::l,b,x,h,hn,c,z,hm=>by
  obtain⟨rfl,rfl⟩:=Prod.mk.inj (Option.some.inj (show some (b0,x0)=some (b,x)from h))
  rw[List.map_cons,List.nodup_cons]at hn
  rcases List.mem_cons.1 (show(c,z)∈(b0,y)::l from hm)with e|h2
  ·cases e;exact .inl ⟨rfl,rfl⟩
  exact .inr ⟨fun e=>hn.1 (List.mem_map.2 ⟨(c,z),h2,e⟩),List.mem_cons_of_mem _ h2⟩
 |k+1,y,p::l,b,x,h,hn,c,z,hm=>by
  rw[List.map_cons,List.nodup_cons]at hn
  rcases List.mem_cons.1 hm with e|hm
  ·refine .inr ⟨fun e2=>hn.1 ?_,e▸List.mem_cons_self ..⟩
   rw[←e,e2]
   exact List.mem_map.2 ⟨_,BV (l:=l) (k:=k) h,rfl⟩
  rcases mf (l:=l) (k:=k) h hn.2 c z hm with h|⟨h1,h2⟩
  ·exact .inl h
  exact .inr ⟨h1,List.mem_cons_of_mem _ h2⟩
 |_,_,[],_,_,h,_,_,_,_=>by cases h
theorem AE.put(h:AE S0 Ts S l gs){k b:Nat}{x:AF}(hk:nth l k=some (b,x))(hr:Nu x=false)(y:AF):AE S0 Ts (S.set b y) (Js k y l) gs:=by
 have hm:=h.at_ b x (BV hk)
 refine⟨h.AD.set hm.2.1 hm.2.2 y,by rw[me];exact h.nd,fun c z hz=>?_,fun T ht=>(h.rk T ht).trans (AKE hm.1 hr),fun g hg=>(h.gr g hg).set hm.1 hr⟩
 rcases mf hk h.nd c z hz with ⟨rfl,rfl⟩|⟨Ac,hz⟩
 ·exact⟨by rw[Ee,if_pos rfl],hm.2.1,hm.2.2⟩
 obtain⟨h1,h2,h3⟩:=h.at_ c z hz
 exact⟨by rw[Ee,if_neg Ac];exact h1,h2,h3⟩
end
def Kc(P:Program)(t:TypeId)(v:Value):Bool:=match A5 P t with
 |some z=>Nat.beq (BG v).length z&&(BG v).all D9&&Nat.blt 0 (BG v).length
 |none=>false
section
variable{n:Nat}{ro:Option Nat}{L:Env}{S S0:St}{Q:CV}{ops:List Oper}{i d:Nat}{o:Oper}{Ts:List St}{l:List (Nat×AF)}{gs:List Gr}
theorem AJt(hl:AE S0 Ts S l gs){e:TypeId}{x:Operand}{v:Value}(ho:nth ops i=some o)(AV:o.op= .box e x)(hw:Be ops L o=some true)(hd:o.dst=some d)(hn:Nat.blt d n=true)(hx:A7 L x=some v)
  (h:∀B S',AE S0 Ts S' ((B,.cells (BG v) e false true [])::l) gs→RE P K n ops (i+1) ((d,ptrTo B 0)::L) S' Q):RE P K n ops i L S Q :=
 AJs ho AV hw hd hn hx (h _ _ (hl.new _))
theorem AJr(hl:AE S0 Ts S l gs){e:TypeId}{z:List Value}(ho:nth ops i=some o)(AV:o.op= .alloc e)(hw:Be ops L o=some true)(hd:o.dst=some d)(hn:Nat.blt d n=true)(hz:zeroOf P e=some z)
  (h:∀B S',AE S0 Ts S' ((B,.cells z e false true [])::l) gs→RE P K n ops (i+1) ((d,ptrTo B 0)::L) S' Q):RE P K n ops i L S Q :=
 AJq ho AV hw hd hn hz (h _ _ (hl.new _))
theorem AAs{t:TypeId}{b o:Nat}{v:Value}{c c':List Value}{e:TypeId}(hz:Kc P t v=true)
  (hg:S.get b=some (.cells c e false true []))(hs:Bq o (BG v) c=some c'):Fs P t (ptrTo b o) v S=some (S.set b (.cells c' e false true [])):=by
 unfold Kc at hz
 unfold Fs ptrTo
 split at hz
 ·rename_i z h1
  simp only[Bool.and_eq_true]at hz
  obtain⟨⟨h2,h3⟩,h4⟩:=hz
  simp only[h1,h2,cond_true]
  unfold Jx
  rw[hg]
  simp only[h3,h4,Bool.and_true,cond_true,hs]
  rfl
 cases hz
theorem CN(hl:AE S0 Ts S l gs)(k:Nat){t:TypeId}{x y:Operand}{v:Value}{b off:Nat}{c c':List Value}{e:TypeId}(hk:nth l k=some (b,.cells c e false true []))(ho:nth ops i=some o)(AV:o.op= .store t x y)(hw:Be ops L o=some true)(hd:o.dst=none)(hx:A7 L x=some (ptrTo b off))(hy:A7 L y=some v)
  (hz:Kc P t v=true)(hs:Bq off (BG v) c=some c')
  (h:∀S',AE S0 Ts S' (Js k (.cells c' e false true []) l) gs→RE P K n ops (i+1) L S' Q):RE P K n ops i L S Q :=
 R0 ho AV hw hd hx hy (AAs hz (hl.get k hk) hs) (h _ (hl.put hk rfl _))
theorem Pf(hl:AE S0 Ts S l gs){R:Value→St→Prop}{x:Operand}{as:Array Operand}{ts:Array TypeId}{f:FuncId}{fi ca:Array Value}{vs:List Value}(ho:nth ops i=some o)(AV:o.op= .call ⟨.value x,as,ts⟩)(hw:Be ops L o=some true)
  (hd:o.dst=some d)(hn:Nat.blt d n=true)(hx:A7 L x=some (.func (.func f) fi ca))(hv:D3 L as.toList=some vs)
  (hc:CC P K f ((fi.toList++vs)++ca.toList) S fun v S'=>AL S S'∧R v S')
  (h:∀v S',AL S S'→R v S'→AE S0 Ts S' l gs→RE P K n ops (i+1) ((d,v)::L) S' Q):RE P K n ops i L S Q :=
 D5 ho AV hw hd hn hx hv (C8 hc fun v S' ⟨h1,h2⟩=>h v S' h1 h2 (hl.call h1))
theorem Ex{c:Code}(I:Env→St→Prop)(h:XE P K n ro c L S fun e L' S'=>e= .normal∧I L' S')(hq:∀L' S',I L' S'→Q .normal L' S'):XE P K n ro c L S Q :=
 py h fun e L' S' ⟨he,hi⟩=>by subst he;exact hq L' S' hi
theorem HV{c:Code}(L1:Env)(I:St→Prop)(h:XE P K n ro c L S fun e L' S'=>e= .normal∧Af L1 L'∧I S')(hq:∀S',I S'→Q .normal L1 S'):XE P K n ro c L S Q:=by
 intro a ha
 obtain⟨m,e,a',S',L',h1,h2,h3,h4,h5⟩:=h a ha
 subst h3
 exact⟨m,_,a',S',L1,h1,h2.sub h4,hq S' h5⟩
theorem F'(_:AE S0 Ts S l gs){c:Code}(L1:Env)(h:XE P K n ro c L S fun e L' S'=>e= .normal∧Af L1 L'∧AE S0 Ts S' l gs)(hq:∀S',AE S0 Ts S' l gs→Q .normal L1 S'):XE P K n ro c L S Q :=
 HV L1 (fun S'=>AE S0 Ts S' l gs) h hq
section
variable{AJ:List Nat}{pl:List (Oper×Nat)}{k j:Nat}{E:List DE}
theorem cX(hl:AE S0 Ts S l gs){R:Value→St→Prop}{x:Operand}{as:Array Operand}{ts:Array TypeId}{f:FuncId}{fi ca:Array Value}{vs:List Value}(ho:nth pl k=some (o,j))(AV:o.op= .call ⟨.value x,as,ts⟩)(hw:Be ops L o=some true)
  (hd:o.dst=some d)(hn:Nat.blt d n=true)(hx:A7 L x=some (.func (.func f) fi ca))(hv:D3 L as.toList=some vs)
  (hc:CC P K f ((fi.toList++vs)++ca.toList) S fun v S'=>AL S S'∧R v S')
  (h:∀v S',AL S S'→R v S'→AE S0 Ts S' l gs→FP P n S' ((nth AJ j).getD 0) E∧RP P K n ops AJ pl (k+1) (left ((nth AJ j).getD 0) E) ((d,v)::L) S' Q):RP P K n ops AJ pl k E L S Q :=
 AKO ho AV hw hd hn hx hv (C8 hc fun v S' ⟨h1,h2⟩=>h v S' h1 h2 (hl.call h1))
end
end
def aB(P:Program)(t:TypeId):Bool:=match A5 P t with
 |some (_+1)=>true
 |_=>false
theorem AGE{t:TypeId}(h:aB P t=true):∃z,A5 P t=some (z+1):=by
 unfold aB at h
 split at h
 ·exact⟨_,by assumption⟩
 cases h
theorem AFT{t:TypeId}{fs:Array Field}{f:Field}{j b o:Nat}(hu:P.underlying t=some (.struct fs))(hf:nth fs.toList j=some f)(hz:aB P f.type=true) :
  H4 P t (ptrTo b o) j=some (ptrTo b (o+f.offset)):=by
 obtain⟨z,hz⟩:=AGE hz
 exact AFU hu hf hz
theorem Bm{L:Env}{S:St}{x:Tmp}{e:TypeId}{p v:Value}{r:List ResultVar}{l:List Value}(hx:look L x=some p)(hv:De P e p S=some v)(h:Ho P L S r=some l):Ho P L S (.cell x e::r)=some (v::l):=by
 unfold Ho
 simp only[hx,hv,h]
theorem BD{L:Env}{S:St}{x:Tmp}{v:Value}{r:List ResultVar}{l:List Value}(hx:look L x=some v)(h:Ho P L S r=some l):Ho P L S (.tmp x::r)=some (v::l):=by
 unfold Ho
 simp only[hx,h]
theorem bl{a b:Bool}(h:a=b):some (Value.bool a)=some (.bool b):=by rw[h]
theorem Ai{n:Nat}{ro:Option Nat}{y:Code}{L:Env}{S:St}{Q:CV}(h:Q .ret L S):Lq P K n ro y Q .ret L S:=h
theorem AR{b:Nat}{L:Env}{S:St}{Q:CV}(h:Q .ret L S):QU b Q .ret L S:=h
theorem Bg{I:Nat→Env→St→Prop}{m:Nat}{L:Env}{S:St}{Q:CV}(h:Q .ret L S):Round I m Q .ret L S:=h
theorem E6{S S':St}(h:RK S S'){b:Nat}{e:TypeId}{c:List Value}(hr:DW S b e c):DW S' b e c:=h.2 b e c hr
theorem Rk{S:St}{t:TypeId}{b o z:Nat}{e:TypeId}{c l:List Value}(ha:Fv P t=some true)(hz:A5 P t=some z)(hb:DW S b e c)(hv:takeN z (CH o c)=some l):De P t (ptrTo b o) S=some (AX l):=by
 obtain⟨_,own,kin,hg⟩:=hb
 exact CD ha hz hg hv
theorem GN{S:St}{t:TypeId}{b o:Nat}{e:TypeId}{c:List Value}{v:Value}(ha:Fv P t=some false)(hb:DW S b e c)(hv:nth c o=some v):De P t (ptrTo b o) S=some v:=by
 obtain⟨_,own,kin,hg⟩:=hb
 exact C4 ha hg hv
def DL(S:St)(e:TypeId)(z:Nat)(v:Value)(C:List (List Value)):Prop :=
 (C= []∧(v= .slice none 0 0∨∃b o k,v= .slice (some ⟨b,o,some k⟩) 0 0)) ∨
 ∃b o cap cs,v= .slice (some ⟨b,o,none⟩) C.length cap∧C.length≤cap∧DW S b e cs∧∀k x,nth C k=some x→takeN z (CH (o+k*z) cs)=some x
theorem DL.move{S S':St}(h:RK S S'){e:TypeId}{z:Nat}{v:Value}{C:List (List Value)}(hs:DL S e z v C):DL S' e z v C:=by
 rcases hs with hs|⟨b,o,cap,cs,h1,h0,h2,h3⟩
 ·exact .inl hs
 exact .inr ⟨b,o,cap,cs,h1,h0,h.2 _ _ _ h2,h3⟩
theorem DL.is{S:St}{e:TypeId}{z:Nat}{v:Value}{C:List (List Value)}(h:DL S e z v C):∃a cap,v= .slice a C.length cap:=by
 rcases h with ⟨rfl,rfl|⟨b,o,k,rfl⟩⟩|⟨b,o,cap,cs,rfl,_⟩<;>exact⟨_,_,rfl⟩
theorem DL.elem{S:St}{e:TypeId}{z:Nat}{a:Option Addr}{len cap:Nat}{C:List (List Value)}(h:DL S e z (.slice a len cap) C){k:Nat}{x:List Value}(hk:nth C k=some x) :
  ∃b o cs,a=some ⟨b,o,none⟩∧len=C.length∧DW S b e cs∧takeN z (CH (o+k*z) cs)=some x:=by
 rcases h with ⟨rfl,_⟩|⟨b,o,cap,cs,e,_,h2,h3⟩
 ·cases hk
 cases e
 exact⟨b,o,cs,rfl,rfl,h2,h3 k x hk⟩
theorem Xi{α:Type}:∀{l:List α} {n k:Nat} {x:α},nth (l.take n) k=some x→nth l k=some x
 | [],n,k,x,h=>by simpa using h
 |y::l,0,k,x,h=>by cases h
 |y::l,n+1,0,x,h=>h
 |y::l,n+1,k+1,x,h=>Xi (l:=l) (n:=n) (k:=k) h
theorem DL.front{S:St}{e:TypeId}{z:Nat}{a:Option Addr}{len cap:Nat}{C:List (List Value)}(h:DL S e z (.slice a len cap) C){t:TypeId}(hu:P.underlying t=some (.slice e))(hz:A5 P e=some z){kk:IntKind}{k:Nat}(hk:k<C.length) :
  ∃v,Fq P t (.slice a len cap) none (some (.int kk k)) none S=some v∧(∃BM,v= .slice a k BM)∧DL S e z v (C.take k):=by
 rcases h with ⟨rfl,_⟩|⟨b,o,cap,cs,e1,MH,⟨hb,own,kin,hg⟩,h3⟩
 ·simp at hk
 cases e1
 refine⟨.slice (some ⟨b,o,none⟩) k cap,?_,⟨_,rfl⟩,.inr ⟨b,o,cap,cs,?_,?_,⟨hb,own,kin,hg⟩,fun j x hx=>h3 j x (Xi hx)⟩⟩
 ·unfold Fq
  have iN:H0 C.length cap none (some (.int kk k)) none=some (0,k,cap):=by
   unfold H0 Jt
   simp only
   rw[if_pos ⟨by omega,by omega⟩]
   rfl
  have hr:I8 P S b z=true:=by
   unfold I8
   rw[hg]
   simp only[hz]
   exact IN _
  simp only[hu,hz,iN,hr,cond_true,Option.isSome_none,Bool.false_and,cond_false,Nat.zero_mul,Nat.add_zero,Nat.sub_zero]
 ·rw[List.length_take,Nat.min_eq_left (by omega)]
 rw[List.length_take,Nat.min_eq_left (by omega)];omega
end Go.Cm
namespace Go.Cm
open Go
variable{P:Program}
theorem FR{eq:TypeId→Value→Value→Option Bool}{xs ys:List Value}{f:Field}{fs:List Field}{x y:Value}{b r:Bool}(hn:(f.name== "_")=false)
  (hx:Em P f.type xs f.offset=some x)(hy:Em P f.type ys f.offset=some y)(he:eq f.type x y=some b)(hr:eqFields P eq xs ys fs=some r):eqFields P eq xs ys (f::fs)=some (b&&r):=by
 unfold eqFields
 have W6:¬f.name= "_" :=by simpa using hn
 rw[if_neg W6]
 simp only[hx,hy,he]
 cases b with
 |true=>simpa using hr
 |false=>rfl
theorem Cw{t:TypeId}{cs:List Value}{o:Nat}{v:Value}(ha:Fv P t=some false)(hv:nth cs o=some v):Em P t cs o=some v:=by
 unfold Em
 simp only[ha,hv]
theorem cF{t:TypeId}{cs l:List Value}{o z:Nat}(ha:Fv P t=some true)(hz:A5 P t=some z)(hv:takeN z (CH o cs)=some l):Em P t cs o=some (AX l):=by
 unfold Em
 simp only[ha,hz,hv]
theorem eq_int{d:Nat}{t:TypeId}{k:IntKind}{a b:Int}(hu:P.underlying t=some (.int k)):Cl P (d+1) t (.int k a) (.int k b)=some (a==b):=by
 unfold Cl
 simp only[hu,if_true]
theorem Zl{d:Nat}{t:TypeId}{a b:Bool}(hu:P.underlying t=some .bool):Cl P (d+1) t (.bool a) (.bool b)=some (a==b):=by
 unfold Cl
 simp only[hu]
theorem WU{d:Nat}{t:TypeId}{fs:Array Field}{xs ys:List Value}{r:Bool}(hu:P.underlying t=some (.struct fs))(hs:P.stoodInHeld t=false)(h:eqFields P (Cl P d) xs ys fs.toList=some r) :
  Cl P (d+1) t (AX xs) (AX ys)=some r:=by
 unfold Cl AX
 simp only[hu,hs,h]
 rfl
theorem e7{t:TypeId}{xo yo:Operand}{xs ys:List Value}{r:Bool}(hg:P.eqGuardType P.depth t=false)(h:Cl P E' t (AX xs) (AX ys)=some r):Fy P .eql t xo yo (AX xs) (AX ys)=some (.bool r):=by
 unfold Fy AX
 simp only[Ox,hg]
 have h':Cl P E' t (.agg xs.toArray) (.agg ys.toArray)=some r:=h
 rw[h']
 rfl
theorem ADR{t:TypeId}{xo yo:Operand}{xs ys:List Value}{r:Bool}(hg:P.eqGuardType P.depth t=false)(h:Cl P E' t (AX xs) (AX ys)=some r):Fy P .neq t xo yo (AX xs) (AX ys)=some (.bool (!r)):=by
 unfold Fy AX
 simp only[Ox,hg]
 have h':Cl P E' t (.agg xs.toArray) (.agg ys.toArray)=some r:=h
 rw[h']
 rfl
def Atom(v:Value):Prop:= ∀m,CP (m+1) v v=true
theorem BK(k:IntKind)(a:Int):Atom (.int k a):=fun m=>by unfold CP;simp
theorem GF(b:Bool):Atom (.bool b):=fun m=>by unfold CP;simp
theorem VI:∀l:List UInt8,GQ l l=true
 | []=>rfl
 |a::l=>by unfold GQ;rw[IN];exact VI l
theorem V8(s:ByteArray):Atom (.string s):=fun m=>by unfold CP;exact VI _
theorem Y9(a:Option Addr)(n c:Nat):Atom (.slice a n c):=fun m=>by unfold CP;simp
theorem VJ:∀(l:List Value) (n:Nat),l.length<n→(∀v,v∈l→Atom v)→Gp n l l=true
 | [],n+1,_,_=>by unfold Gp;rfl
 |v::l,n+1,hn,h=>by
  unfold Gp
  simp only[List.length_cons]at hn
  rw[Bool.and_eq_true]
  refine⟨?_,VJ l n (by omega) fun x hx=>h x (List.mem_cons_of_mem _ hx)⟩
  obtain⟨m,rfl⟩:∃m,n=m+1:=⟨n-1,by omega⟩
  exact h v (List.mem_cons_self ..) m
theorem GR{l:List Value}(hn:Nat.blt l.length 90000=true)(h:∀v,v∈l→Atom v):CP 100000 (AX l) (AX l)=true:=by
 have hn:=Gk hn
 show CP (99999+1) (.agg l.toArray) (.agg l.toArray)=true
 unfold CP
 exact VJ l 99999 (by omega) h
theorem GG:∀v,v∈([]:List Value)→Atom v:=fun _ h=>(List.not_mem_nil h).elim
theorem BS{x:Value}{l:List Value}(hx:Atom x)(hl:∀v,v∈l→Atom v):∀v,v∈x::l→Atom v:=fun v h=>by
 rcases List.mem_cons.1 h with rfl|h
 ·exact hx
 exact hl v h
theorem Dt{v:Value}(h:Atom v):CP 100000 v v=true:=h 99999
theorem ON{e:DE}{m:Nat}(h:m.testBit e.j=true){X:Prop}:m.testBit e.j=false→X:=fun k=>by rw[h]at k;cases k
theorem CQ{n:Nat}{e:DE}{S':St}{t:TypeId}{x:Operand}{u:Value}(AV:e.op= .load t x)(hx:A7 e.L x=some u)(hv:De P t u S'=some e.v)(hs:CP 100000 e.v e.v=true)(hf:e.fr=none){X:Prop}:X→HY P n S' e :=
 fun _=>by
 unfold HY
 rw[hf]
 exact⟨fun a ha=>by rw[AV];simp only[CF,ha.ev hx,hv],hs⟩
theorem AAp{n:Nat}{e:DE}{S':St}{b:Nat}{cs:List Value}{t:TypeId}{r:Bool}(hf:e.fr=some (b,cs,t,r))(hg:S'.get b=some (.cells cs t r true []))(hs:Gp 100000 cs cs=true){X:Prop}:X→HY P n S' e:=fun _=>by
 unfold HY
 rw[hf]
 exact⟨hg,hs⟩
theorem OM{n:Nat}{S':St}{m:Nat}:∀{E:List DE},(E.all fun e=>m.testBit e.j)=true→FP P n S' m E
 | [],_=>trivial
 |e::r,h=>by
  rw[List.all_cons,Bool.and_eq_true]at h
  exact⟨ON h.1,OM h.2⟩
def Yr(P:Program)(n:Nat)(S':St):List DE→Prop
 | []=>True
 |e::r=>HY P n S' e∧Yr P n S' r
theorem HT{n:Nat}{S':St}{m:Nat}:∀{E:List DE},Yr P n S' E→FP P n S' m E
 | [],_=>trivial
 |_::_,h=>⟨fun _=>h.1,HT h.2⟩
theorem E0{n:Nat}{S':St}{m:Nat}:∀{E:List DE},Yr P n S' E→Yr P n S' (left m E)
 | [],_=>trivial
 |e::r,h=>by
  unfold left
  cases m.testBit e.j with
  |true=>exact E0 h.2
  |false=>exact⟨h.1,E0 h.2⟩
end Go.Cm
namespace Go.Cm
open Go
variable{P:Program}{K:BX}
theorem oR{α:Type}(l:List α):takeN l.length l=some l:=by
 rw[Td _ _ (Nat.le_refl _),List.take_length]
theorem AFn{S:St}(f:BW S){b:Nat}(hb:b<S.size)(B:AF):BW (S.set b B):=fun x hx=>by
 have CS:S.size≤x:=hx
 rw[Ee,if_neg (by omega)]
 exact f x CS
def Ys(S0 S S':St)(e:TypeId):Prop:=S.size≤S'.size∧(∀b,b<S.size→S'.get b=S.get b ∨
 ∃c kin,S.get b=some (.cells c e true true kin)∧S0.size≤b∧S'.get b=some (.cells c e true false kin))∧(BW S→BW S')
theorem qZ{S0 S:St}{g:Gr}(h:Am S0 S g)(h0:S0.size≤S.size){n:Nat}{new:List Value}(hn:0<n)(hlen:new.length=n*g.z)(hc:new.all D9=true)(hz:MB P g.e g.z (g.n+n)=true){base:Option Addr}{cap:Nat}(hv:g.v= .slice base g.n cap) :
  ∃v' S',Fw P g.e base g.n cap n g.z new S=some (v',S')∧Am S0 S' ⟨v',g.e,g.z,g.c++new,g.n+n⟩∧Ys S0 S S' g.e:=by
 rcases h with ⟨h1,h2,h3⟩|⟨b,kin,h1,h2,h3,h4,h5⟩
 ·rw[h1]at hv
  injection hv with e1 _ e3
  subst e1;subst e3
  refine⟨.slice (some ⟨S.size,0,none⟩) n n,(S.new (.cells new g.e true true [])).2,?_,?_,Nat.le_succ _,fun b hb=> .inl ((AL.new S _).2 b hb),(AL.new S _).3⟩
  ·unfold Fw Fw.Ol
   have:Nat.ble (g.n+n) 0=false:=by
    rw[h3]
    cases hb:Nat.ble (0+n) 0 with
    |false=>rfl
    |true=>have:=Nat.le_of_ble_eq_true hb;omega
   rw[this,hz,hc]
   simp only[cond_false,Bool.and_self,cond_true]
   unfold OZ
   rw[h3,IN]
   rfl
  refine .inr ⟨S.size,[],?_,h0,Nat.lt_succ_self _,?_,?_⟩
  ·simp only[h3,Nat.zero_add]
  ·simp only[h2,List.nil_append];exact MA _ _
  simp only[h2,List.nil_append,h3,Nat.zero_add];exact hlen
 rw[h1]at hv
 cases hv
 refine⟨.slice (some ⟨S.size,0,none⟩) (g.n+n) (g.n+n),((S.set b (.cells g.c g.e true false kin)).new (.cells (g.c++new) g.e true true (b::kin))).2,?_,?_,Nat.le_succ _,fun j hj=>?_,fun f=>(AL.new _ _).3 (AFn f h3 _)⟩
 ·unfold Fw Fw.Ol
  have:Nat.ble (g.n+n) g.n=false:=by
   cases hb:Nat.ble (g.n+n) g.n with
   |false=>rfl
   |true=>have:=Nat.le_of_ble_eq_true hb;omega
  rw[this,hz,hc]
  simp only[cond_false,Bool.and_self,cond_true]
  unfold OZ
  have ht:takeN (g.n*g.z) (CH 0 g.c)=some g.c:=by
   show takeN (g.n*g.z) g.c=_
   rw[←h5];exact oR _
  simp only[h4,ht,Nat.zero_add,h5,IN,Bool.and_self,cond_true]
  rfl
 ·refine .inr ⟨S.size,b::kin,rfl,h0,Nat.lt_succ_self _,MA (S.set b (.cells g.c g.e true false kin)) _,?_⟩
  simp only[List.length_append,h5,hlen,Nat.add_mul]
 rw[(AL.new (S.set b (.cells g.c g.e true false kin)) _).2 j hj,Ee]
 by_cases e:j=b
 ·subst e
  exact .inr ⟨g.c,kin,h4,h2,by rw[if_pos rfl]⟩
 exact .inl (by rw[if_neg e])
theorem Ys.rk{S0 S S':St}{e:TypeId}(h:Ys S0 S S' e):RK S S':=by
 refine⟨h.1,fun b e2 c ⟨hb,own,kin,hg⟩=>⟨Nat.lt_of_lt_of_le hb h.1,?_⟩⟩
 rcases h.2.1 b hb with e1|⟨c2,AHs,k1,_,k2⟩
 ·exact⟨own,kin,e1.trans hg⟩
 rw[hg]at k1
 cases k1
 exact⟨_,_,k2⟩
def I9:Nat→Gr→List Gr→List Gr
 |_,_,[]=>[]
 |0,g,_::l=>g::l
 |k+1,g,x::l=>x::I9 k g l
theorem zq:∀{k:Nat} {g h x:Gr} {l:List Gr},nth l k=some g→x∈I9 k h l→(l.map (·.e)).Nodup→x=h∨(x∈l∧x.e≠g.e)
 |0,g,h,x,y::l,hk,hx,hn=>by
  obtain rfl:y=g:=Option.some.inj hk
  rw[List.map_cons,List.nodup_cons]at hn
  rcases List.mem_cons.1 (show x∈h::l from hx)with e|hx
  ·exact .inl e
  exact .inr ⟨List.mem_cons_of_mem _ hx,fun e=>hn.1 (e▸List.mem_map.2 ⟨x,hx,rfl⟩)⟩
 |k+1,g,h,x,y::l,hk,hx,hn=>by
  rw[List.map_cons,List.nodup_cons]at hn
  rcases List.mem_cons.1 (show x∈y::I9 k h l from hx)with e|hx
  ·refine .inr ⟨e▸List.mem_cons_self ..,fun e2=>hn.1 ?_⟩
   rw[←e,e2]
   exact List.mem_map.2 ⟨g,BV (l:=l) (k:=k) hk,rfl⟩
  rcases zq (l:=l) (k:=k) hk hx hn.2 with e|⟨h1,h2⟩
  ·exact .inl e
  exact .inr ⟨List.mem_cons_of_mem _ h1,h2⟩
 |_,_,_,_,[],hk,_,_=>by cases hk
theorem AE.apd{S0 S S':St}{Ts:List St}{l:List (Nat×AF)}{gs:List Gr}(hl:AE S0 Ts S l gs){k:Nat}{g g':Gr}(hk:nth gs k=some g)(hr:(l.all fun p=>!Nu p.2)=true)(hd:(gs.map (·.e)).Nodup)
  (ha:Ys S0 S S' g.e)(hg:Am S0 S' g'):AE S0 Ts S' l (I9 k g' gs):=by
 refine⟨⟨Nat.le_trans hl.AD.1 ha.1,fun b hb=>?_,fun f=>ha.2.2 (hl.AD.3 f)⟩,hl.nd,fun b x hx=>?_,fun T ht=>(hl.rk T ht).trans ha.rk,fun x hx=>?_⟩
 ·have Bj:=Nat.lt_of_lt_of_le hb hl.AD.1
  rcases ha.2.1 b Bj with e|⟨_,_,_,h2,_⟩
  ·exact e.trans (hl.AD.2 b hb)
  omega
 ·obtain⟨h1,h2,h3⟩:=hl.at_ b x hx
  refine⟨?_,h2,Nat.lt_of_lt_of_le h3 ha.1⟩
  rcases ha.2.1 b h3 with e|⟨c,kin,k1,_,_⟩
  ·exact e.trans h1
  rw[h1]at k1
  cases k1
  have:=List.all_eq_true.1 hr _ hx
  cases this
 rcases zq hk hx hd with rfl|⟨h1,h2⟩
 ·exact hg
 rcases hl.gr x h1 with h|⟨b,kin,k1,k2,k3,k4,k5⟩
 ·exact .inl h
 refine .inr ⟨b,kin,k1,k2,Nat.lt_of_lt_of_le k3 ha.1,?_,k5⟩
 rcases ha.2.1 b k3 with e|⟨c,AHs,j1,_,_⟩
 ·exact e.trans k4
 rw[k4]at j1
 injection j1 with j1
 injection j1 with _ a2
 exact absurd a2 h2
def Io(P:Program)(e:TypeId)(z:Nat):Bool:=match P.info? e,zeroV P e with
 |some ei,some zv=>Nat.ble ei.bytes 1024&&Nat.blt 0 ei.bytes&&Nat.beq (BG zv).length z&&Nat.blt 0 z
 |_,_=>false
theorem Wf{e:TypeId}{z need:Nat}(h:Io P e z=true)(hn:need≤Ae):MB P e z need=true:=by
 unfold Io at h
 unfold MB
 split at h
 ·rename_i ei zv h1 h2
  rw[h1,h2]
  simp only[Bool.and_eq_true]at h ⊢
  exact⟨⟨⟨⟨h.1.1.1,h.1.1.2⟩,Nat.ble_eq_true_of_le hn⟩,h.1.2⟩,h.2⟩
 cases h
section
variable{n:Nat}{ro:Option Nat}{L:Env}{S S0:St}{Q:CV}{ops:List Oper}{i d:Nat}{o:Oper}{Ts:List St}{l:List (Nat×AF)}{gs:List Gr}
theorem Am.base{S0 S1 S:St}{g:Gr}(h:Am S1 S g)(h0:S0.size≤S1.size):Am S0 S g:=by
 rcases h with h|⟨b,kin,h1,h2,h⟩
 ·exact .inl h
 exact .inr ⟨b,kin,h1,Nat.le_trans h0 h2,h⟩
theorem AE.D2(hl:AE S0 Ts S l gs){g:Gr}(hg:Am S0 S g):AE S0 Ts S l (g::gs):=⟨hl.AD,hl.nd,hl.at_,hl.rk,fun x hx=>by
 rcases List.mem_cons.1 hx with rfl|hx
 ·exact hg
 exact hl.gr x hx⟩
def NP(P:Program)(elem:TypeId)(len:Nat)(us:List (Nat×Value)):Option (List Value):=match P.info? elem with
 |some ei=>match zeroV P elem with
  |some z=>if len*ei.size≤1000000∧(BG z).length=ei.size then KC (fun i=>some (i*ei.size,ei.size)) (EE len (BG z)) us else none
  |none=>none
 |none=>none
theorem zG{t elem:TypeId}{len:Nat}{ps:Array (Nat×Operand)}{us:List (Nat×Value)}{c:List Value}(ho:nth ops i=some o)(AV:o.op= .buildSlice t len ps)(hw:Be ops L o=some true)(hd:o.dst=some d)(hn:Nat.blt d n=true)
  (hu:P.underlying t=some (.slice elem))(hx:J9 L ps.toList=some us)(hc:NP P elem len us=some c)
  (h:RE P K n ops (i+1) ((d,.slice (some ⟨S.size,0,none⟩) len len)::L) (S.new (.cells c elem true true [])).2 Q):RE P K n ops i L S Q:=by
 unfold NP at hc
 split at hc
 ·rename_i ei hi
  split at hc
  ·rename_i z hz
   split at hc
   ·rename_i hle
    exact AJu ho AV hw hd hn hu hi hz hle.1 hle.2 hx hc h
   cases hc
  cases hc
 cases hc
theorem mn(hl:AE S0 Ts S l gs){t elem:TypeId}{len:Nat}{ps:Array (Nat×Operand)}{us:List (Nat×Value)}{c:List Value}(zz:Nat)(ho:nth ops i=some o)(AV:o.op= .buildSlice t len ps)(hw:Be ops L o=some true)(hd:o.dst=some d)(hn:Nat.blt d n=true)
  (hu:P.underlying t=some (.slice elem))(hx:J9 L ps.toList=some us)(hc:NP P elem len us=some c)(G1:c.length=len*zz)
  (h:∀v S',AE S0 Ts S' l (⟨v,elem,zz,c,len⟩::gs)→RE P K n ops (i+1) ((d,v)::L) S' Q):RE P K n ops i L S Q :=
 zG ho AV hw hd hn hu hx hc (h _ _ (AE.D2 (hl.call (AL.new S _)) (.inr ⟨S.size,[],rfl,hl.AD.1,Nat.lt_succ_self _,MA _ _,G1⟩)))
theorem Ry(hl:AE S0 Ts S l gs){t elem:TypeId}{len:Nat}{ps:Array (Nat×Operand)}{us:List (Nat×Value)}{c:List Value}(ho:nth ops i=some o)(AV:o.op= .buildSlice t len ps)(hw:Be ops L o=some true)(hd:o.dst=some d)(hn:Nat.blt d n=true)
  (hu:P.underlying t=some (.slice elem))(hx:J9 L ps.toList=some us)(hc:NP P elem len us=some c)
  (h:∀B S',DW S' B elem c→AE S0 Ts S' l gs→RE P K n ops (i+1) ((d,.slice (some ⟨B,0,none⟩) len len)::L) S' Q):RE P K n ops i L S Q :=
 zG ho AV hw hd hn hu hx hc (h _ _ ⟨Nat.lt_succ_self _,_,_,MA _ _⟩ (hl.call (AL.new S _)))
theorem eq_nil{t e:TypeId}{xo yo:Operand}{a:Option Addr}{m c:Nat}(hu:P.underlying t=some (.slice e)):Fy P .eql t xo yo (.slice a m c) (.slice none 0 0)=some (.bool a.isNone):=by
 unfold Fy
 have:Cl P E' t (.slice a m c) (.slice none 0 0)=some a.isNone:=by
  unfold E' Cl
  simp only[hu]
  cases a<;>rfl
 simp only[Ox,this]
 rfl
theorem qa(hl:AE S0 Ts S l gs){k:Nat}{g:Gr}(hk:nth gs k=some g)(hr:(l.all fun p=>!Nu p.2)=true)(hd:(gs.map (·.e)).Nodup){ts:Array TypeId}{sT xT:TypeId}{xd:TypeDesc}{x:Value}{m:Nat}{new:List Value}
  (CT:ts.toList= [sT,xT])
  (hu:P.underlying sT=some (.slice g.e))(Dd:P.underlying xT=some xd)(hi:FV xd=false)(hlen:F6 x=some m)(hz:A5 P g.e=some g.z)(hs:EN S g.z m x=some new)
  (Cb:new.length=m*g.z)(hc:new.all D9=true)(FF:Io P g.e g.z=true)(FU:g.n+m≤Ae) :
  ∃v S',ER P .append ts.toList [g.v,x] S=some (v,S')∧AE S0 Ts S' l (I9 k ⟨v,g.e,g.z,g.c++new,g.n+m⟩ gs):=by
 have K8:=hl.gr g (BV hk)
 obtain⟨base,cap,hv⟩:∃base cap,g.v= .slice base g.n cap:=by
  rcases K8 with ⟨h1,_,h3⟩|⟨b,kin,h1,_⟩
  ·exact⟨none,0,by rw[h1,h3]⟩
  exact⟨_,_,h1⟩
 rcases Nat.eq_zero_or_pos m with HJ|hm
 ·subst HJ
  have Cg:new= []:=List.length_eq_zero_iff.1 (by rw[Cb,Nat.zero_mul])
  subst Cg
  have hgg:(⟨g.v,g.e,g.z,g.c++[],g.n+0⟩:Gr)=g:=by rw[List.append_nil,Nat.add_zero]
  have Iz:∀{k:Nat} {l:List Gr},nth l k=some g→I9 k g l=l:=by
   intro k l
   induction l generalizing k with
   |nil=>intro _;cases k<;>rfl
   |cons x l ih =>
    intro hk
    cases k with
    |zero=>obtain rfl:x=g:=Option.some.inj hk;rfl
    |succ k=>exact congrArg (x:: ·) (ih hk)
  refine⟨g.v,S,?_,by rw[hgg,Iz hk];exact hl⟩
  unfold ER
  simp only
  have:Fx P ts.toList g.v x S=some (g.v,S):=by
   unfold Fx
   rw[CT]
   have MH:cap=g.n:=by
    rcases K8 with ⟨h1,_,h3⟩|⟨b,kin,h1,_⟩
    ·rw[h1]at hv;injection hv with _ _ e3;rw[←e3,h3]
    rw[h1]at hv;injection hv with _ _ e3;exact e3.symm
   simp only[hu,Dd,hlen,hv,hi,hz,hs,cond_false]
   unfold Fw
   have hb:Nat.ble (g.n+0) cap=true:=by rw[MH];exact Nat.ble_eq_true_of_le (Nat.le_refl _)
   rw[hb]
   simp only[cond_true]
   unfold Tv
   rcases K8 with ⟨h1,_,h3⟩|⟨b,kin,h1,_⟩
   ·rw[h1]at hv;injection hv with e1 _ _;subst e1;rfl
   rw[h1]at hv;injection hv with e1 _ _;subst e1;rfl
  rw[this]
 obtain⟨v',S',h1,h2,h3⟩:=qZ (P:=P) K8 hl.AD.1 hm Cb hc (Wf FF FU) hv
 refine⟨v',S',?_,hl.apd hk hr hd h3 h2⟩
 unfold ER
 simp only
 have:Fx P ts.toList g.v x S=some (v',S'):=by
  unfold Fx
  rw[CT]
  simp only[hu,Dd,hlen,hv,hi,hz,hs,cond_false]
  exact h1
 rw[this]
theorem DZ(hl:AE S0 Ts S l gs)(k:Nat){g:Gr}(hk:nth gs k=some g)(hr:(l.all fun p=>!Nu p.2)=true)(hd:(gs.map (·.e)).Nodup){as:Array Operand}{ts:Array TypeId}{sT xT:TypeId}{xd:TypeDesc}{x:Value}{m:Nat}{new:List Value}
  (ho:nth ops i=some o)(AV:o.op= .call ⟨.builtin .append,as,ts⟩)(hw:Be ops L o=some true)(Hg:o.dst=some d)(AN:Nat.blt d n=true)(hx:D3 L as.toList=some [g.v,x])(CT:ts.toList= [sT,xT])
  (hu:P.underlying sT=some (.slice g.e))(Dd:P.underlying xT=some xd)(hi:FV xd=false)(hlen:F6 x=some m)(hz:A5 P g.e=some g.z)(hs:EN S g.z m x=some new)
  (Cb:new.length=m*g.z)(hc:new.all D9=true)(FF:Io P g.e g.z=true)(FU:g.n+m≤Ae)
  (h:∀v S',AE S0 Ts S' l (I9 k ⟨v,g.e,g.z,g.c++new,g.n+m⟩ gs)→RE P K n ops (i+1) ((d,v)::L) S' Q):RE P K n ops i L S Q:=by
 obtain⟨v,S',h1,h2⟩:=qa hl hk hr hd CT hu Dd hi hlen hz hs Cb hc FF FU
 exact mo ho AV hw Hg AN rfl hx h1 (h v S' h2)
section
variable{AJ:List Nat}{pl:List (Oper×Nat)}{q j:Nat}{E:List DE}
theorem KZ(hF:BW S0)(hl:AE S0 Ts S l gs){e:TypeId}{z:List Value}(ho:nth pl q=some (o,j))(AV:o.op= .alloc e)(hw:Be ops L o=some true)(hd:o.dst=some d)(hn:Nat.blt d n=true)(hz:zeroOf P e=some z)
  (h:∀B S',AE S0 Ts S' ((B,.cells z e false true [])::l) gs→RP P K n ops AJ pl (q+1) (⟨j,o.op,undef,L,some (B,z,e,false)⟩::E) ((d,ptrTo B 0)::L) S' Q):RP P K n ops AJ pl q E L S Q :=
 AKK ho AV hw hd hn hz (hl.AD.3 hF _ (Nat.le_refl _)) (h _ _ (hl.new _))
theorem VG(hl:AE S0 Ts S l gs)(k:Nat){g:Gr}(hk:nth gs k=some g)(hr:(l.all fun p=>!Nu p.2)=true)(hd:(gs.map (·.e)).Nodup){as:Array Operand}{ts:Array TypeId}{sT xT:TypeId}{xd:TypeDesc}{x:Value}{m:Nat}{new:List Value}
  (ho:nth pl q=some (o,j))(AV:o.op= .call ⟨.builtin .append,as,ts⟩)(hw:Be ops L o=some true)(Hg:o.dst=some d)(AN:Nat.blt d n=true)(hx:D3 L as.toList=some [g.v,x])(CT:ts.toList= [sT,xT])
  (hu:P.underlying sT=some (.slice g.e))(Dd:P.underlying xT=some xd)(hi:FV xd=false)(hlen:F6 x=some m)(hz:A5 P g.e=some g.z)(hs:EN S g.z m x=some new)
  (Cb:new.length=m*g.z)(hc:new.all D9=true)(FF:Io P g.e g.z=true)(FU:g.n+m≤Ae)
  (h:∀v S',AE S0 Ts S' l (I9 k ⟨v,g.e,g.z,g.c++new,g.n+m⟩ gs)→FP P n S' ((nth AJ j).getD 0) E∧RP P K n ops AJ pl (q+1) (left ((nth AJ j).getD 0) E) ((d,v)::L) S' Q):RP P K n ops AJ pl q E L S Q:=by
 obtain⟨v,S',h1,h2⟩:=qa hl hk hr hd CT hu Dd hi hlen hz hs Cb hc FF FU
 exact YG ho (by rw[AV];rfl) hw Hg AN (fun a ha=>⟨0,by rw[AV];unfold CG;simp only[kindOf,NW ha hx,h1]⟩) (h v S' h2).1 (h v S' h2).2
theorem rX{t elem:TypeId}{len:Nat}{ps:Array (Nat×Operand)}{us:List (Nat×Value)}{c:List Value}(AV:o.op= .buildSlice t len ps)
  (hu:P.underlying t=some (.slice elem))(hx:J9 L ps.toList=some us)(hc:NP P elem len us=some c):∀a,Has n a L→DY P a.ev o.op S=some (.slice (some ⟨S.size,0,none⟩) len len,(S.new (.cells c elem true true [])).2):=by
 intro a ha
 unfold NP at hc
 rw[AV]
 simp only[DY,hu,Zm ha hx]
 split at hc
 ·rename_i ei hi
  split at hc
  ·rename_i z hz
   split at hc
   ·rename_i hle
    rw[hi];simp only[hz];rw[if_pos hle,hc];rfl
   cases hc
  cases hc
 cases hc
theorem MX(hF:BW S0)(hl:AE S0 Ts S l gs){t elem:TypeId}{len:Nat}{ps:Array (Nat×Operand)}{us:List (Nat×Value)}{c:List Value}(ho:nth pl q=some (o,j))(AV:o.op= .buildSlice t len ps)(hw:Be ops L o=some true)(hd:o.dst=some d)(hn:Nat.blt d n=true)
  (hu:P.underlying t=some (.slice elem))(hx:J9 L ps.toList=some us)(hc:NP P elem len us=some c)
  (h:∀B S',S'.get B=some (.cells c elem true true [])→DW S' B elem c→AE S0 Ts S' l gs→RP P K n ops AJ pl (q+1) (⟨j,o.op,undef,L,some (B,c,elem,true)⟩::E) ((d,.slice (some ⟨B,0,none⟩) len len)::L) S' Q):RP P K n ops AJ pl q E L S Q :=
 nN ho (by rw[AV];rfl) hw hd hn (rX AV hu hx hc) (hl.AD.3 hF _ (Nat.le_refl _)) (h _ _ (MA _ _) ⟨Nat.lt_succ_self _,_,_,MA _ _⟩ (hl.call (AL.new S _)))
theorem Hs(hl:AE S0 Ts S l gs)(k:Nat){t:TypeId}{x y:Operand}{v:Value}{b off:Nat}{c c':List Value}{e:TypeId}(hk:nth l k=some (b,.cells c e false true []))(ho:nth pl q=some (o,j))(AV:o.op= .store t x y)(hw:Be ops L o=some true)(hd:o.dst=none)(hx:A7 L x=some (ptrTo b off))(hy:A7 L y=some v)
  (hz:Kc P t v=true)(hs:Bq off (BG v) c=some c')
  (h:∀S',AE S0 Ts S' (Js k (.cells c' e false true []) l) gs→FP P n S' ((nth AJ j).getD 0) E∧RP P K n ops AJ pl (q+1) (left ((nth AJ j).getD 0) E) L S' Q):RP P K n ops AJ pl q E L S Q :=
 R3 ho AV hw hd hx hy (AAs hz (hl.get k hk) hs) (h _ (hl.put hk rfl _)).1 (h _ (hl.put hk rfl _)).2
end
end
theorem AAD{z:Nat}:∀(C:List (List Value)) (l:List Value),(∀k x,nth C k=some x→takeN z (l.drop (k*z))=some x)→takeN (C.length*z) l=some C.flatten
 | [],l,_=>by simp[takeN]
 |x::C,l,h=>by
  have h0:=h 0 x rfl
  rw[Nat.zero_mul,List.drop_zero]at h0
  obtain⟨hx,hle,hxe⟩:=IW _ _ _ h0
  have ih:=AAD C (l.drop z) fun k y hy=>by
   have:=h (k+1) y hy
   rw[List.drop_drop,show z+k*z=(k+1)*z by rw[Nat.add_mul];omega]
   exact this
  obtain⟨h1,h2,h3⟩:=IW _ _ _ ih
  rw[List.length_cons,Nat.add_mul,Nat.one_mul]
  rw[List.length_drop]at h2
  rw[Td _ _ (by omega)]
  rw[List.flatten_cons,hxe,h3,Nat.add_comm (C.length*z) z,List.take_add]
theorem DL.cells{S:St}{e:TypeId}{z:Nat}{a:Option Addr}{len cap:Nat}{C:List (List Value)}(h:DL S e z (.slice a len cap) C):EN S z len (.slice a len cap)=some C.flatten:=by
 rcases h with ⟨rfl,e|⟨b,o,k,e⟩⟩|⟨b,o,Bv,cs,e,_,⟨_,own,kin,hg⟩,h3⟩
 ·cases e;rfl
 ·cases e;rfl
 cases e
 show MW S b o (C.length*z)=_
 unfold MW
 rw[hg]
 show takeN (C.length*z) (CH o cs)=_
 rw[Ha]
 refine AAD C _ fun k x hk=>?_
 have:=h3 k x hk
 rw[Ha]at this
 rw[List.drop_drop]
 exact this
theorem Am.sliceAt{S0 S:St}{g:Gr}{C:List (List Value)}(h:Am S0 S g)(hn:g.n=C.length)(hc:g.c=C.flatten)(hz:∀x,x∈C→x.length=g.z):DL S g.e g.z g.v C:=by
 rcases h with ⟨h1,_,h3⟩|⟨b,kin,h1,_,h3,h4,_⟩
 ·exact .inl ⟨List.length_eq_zero_iff.1 (hn▸h3),.inl h1⟩
 refine .inr ⟨b,0,g.n,g.c,by rw[h1,hn],by omega,⟨h3,_,_,h4⟩,fun k x hk=>?_⟩
 rw[Nat.zero_add,Ha,hc]
 clear hn hc h1 h3 h4
 induction C generalizing k with
 |nil=>cases hk
 |cons y C ih =>
  have hy:=hz y (List.mem_cons_self ..)
  cases k with
  |zero =>
   obtain rfl:y=x:=Option.some.inj hk
   rw[Nat.zero_mul,List.drop_zero,List.flatten_cons,Td _ _ (by rw[List.length_append];omega),←hy,List.take_left]
  |succ k =>
   rw[List.flatten_cons,Nat.add_mul,Nat.one_mul,Nat.add_comm (k*g.z) g.z,←List.drop_drop,←hy,List.drop_left,hy]
   exact ih (fun x hx=>hz x (List.mem_cons_of_mem _ hx)) k hk
end Go.Cm
namespace Go.Cm
open Go
variable{P:Program}{K:BX}
theorem AKF{S T:St}{b:Nat}(h:RK T S)(hb:T.size≤b)(y:AF):RK T (S.set b y):=by
 refine⟨h.1,fun j e c hj=>?_⟩
 obtain⟨hjs,own,kin,hg⟩:=h.2 j e c hj
 have:=hj.1
 exact⟨hjs,own,kin,by rw[Ee,if_neg (by omega)];exact hg⟩
section
variable{S0 S:St}{Ts:List St}{l:List (Nat×AF)}{gs:List Gr}
theorem AE.yz(h:AE S0 Ts S l []){k b:Nat}{x:AF}(hk:nth l k=some (b,x))(hT:∀T,T∈Ts→T.size≤b)(y:AF):AE S0 Ts (S.set b y) (Js k y l) []:=by
 have hm:=h.at_ b x (BV hk)
 refine⟨h.AD.set hm.2.1 hm.2.2 y,by rw[me];exact h.nd,fun c z hz=>?_,fun T ht=>AKF (h.rk T ht) (hT T ht) y,fun g hg=>(List.not_mem_nil hg).elim⟩
 rcases mf hk h.nd c z hz with ⟨rfl,rfl⟩|⟨Ac,hz⟩
 ·exact⟨by rw[Ee,if_pos rfl],hm.2.1,hm.2.2⟩
 obtain⟨h1,h2,h3⟩:=h.at_ c z hz
 exact⟨by rw[Ee,if_neg Ac];exact h1,h2,h3⟩
theorem AE.old(h:AE S0 [S0] S l gs){k b:Nat}{x:AF}(hk:nth l k=some (b,x)):∀T,T∈[S0]→T.size≤b:=fun T hT=>by
 rw[List.mem_singleton.1 hT]
 exact(h.at_ b x (BV hk)).2.1
end
theorem AAt{S:St}{t:TypeId}{b o:Nat}{v:Value}{c c':List Value}{e:TypeId}(hz:Kc P t v=true)
  (hg:S.get b=some (.cells c e true true []))(hs:Bq o (BG v) c=some c'):Fs P t (ptrTo b o) v S=some (S.set b (.cells c' e true true [])):=by
 unfold Kc at hz
 unfold Fs ptrTo
 split at hz
 ·rename_i z h1
  simp only[Bool.and_eq_true]at hz
  obtain⟨⟨h2,h3⟩,h4⟩:=hz
  simp only[h1,h2,cond_true]
  unfold Jx
  rw[hg]
  simp only[h3,h4,Bool.and_true,cond_true,hs]
  rfl
 cases hz
section
variable{n:Nat}{ro:Option Nat}{L:Env}{S S0:St}{Q:CV}{ops:List Oper}{i d:Nat}{o:Oper}{Ts:List St}{l:List (Nat×AF)}{gs:List Gr}
theorem AIW{t e:TypeId}{ei:TypeInfo}{z:Value}{k1 k2:IntKind}{m:Nat}(hu:P.underlying t=some (.slice e))(hi:P.info? e=some ei)(hz:zeroV P e=some z)(hb:Nat.ble ei.bytes 1024=true)(hs:(BG z).length=ei.size)(hm:m≤Ae) :
  Uu P t (.int k1 m) (.int k2 m) S=some (N8 S (EE m (BG z)) e m m):=by
 unfold Uu
 simp only[hu,hi,hz]
 rw[if_pos ⟨by omega,by omega,by omega,Nat.le_of_ble_eq_true hb,hs⟩]
 rfl
theorem AJx(hl:AE S0 Ts S l gs){t e:TypeId}{x y:Operand}{ei:TypeInfo}{z:Value}{k1 k2:IntKind}{i1 i2:Int}{m:Nat}(ho:nth ops i=some o)(AV:o.op= .makeSlice t x y)(hw:Be ops L o=some true)(hd:o.dst=some d)(hn:Nat.blt d n=true)
  (hx:A7 L x=some (.int k1 i1))(hy:A7 L y=some (.int k2 i2))(e1:i1=m)(e2:i2=m)(hu:P.underlying t=some (.slice e))(hi:P.info? e=some ei)(hz:zeroV P e=some z)(hb:Nat.ble ei.bytes 1024=true)(hs:(BG z).length=ei.size)(hm:m≤Ae)
  (h:∀B S',AE S0 Ts S' ((B,.cells (EE m (BG z)) e true true [])::l) gs→RE P K n ops (i+1) ((d,.slice (some ⟨B,0,none⟩) m m)::L) S' Q):RE P K n ops i L S Q:=by
 subst e1;subst e2
 exact AJw ho AV hw hd hn hx hy (AIW hu hi hz hb hs hm) (h _ _ (hl.new _))
end
section
variable{κ:Type}[DecidableEq κ](kc:κ→Value)
def JO:Nat→List (κ×Value)→List MapEntry
 |_,[]=>[]
 |c,(k,v)::r=>{key:=kc k,val:=v,born:=c}::JO (c+1) r
def En:List (κ×Value)→κ→Option (Nat×Value)
 | [],_=>none
 |(a,w)::r,k=>if k=a then some (0,w)else match En r k with
  |some (j,v)=>some (j+1,v)
  |none=>none
def GZ(D:List (κ×Value))(k:κ):Option Value:=match En D k with
 |some (_,v)=>some v
 |none=>none
def EZ:List (κ×Value)→κ→Value→List (κ×Value)
 | [],k,v=>[(k,v)]
 |(a,w)::r,k,v=>if k=a then(a,v)::r else(a,w)::EZ r k v
theorem Tw(D:List (κ×Value))(k:κ)(v:Value)(k':κ):GZ (EZ D k v) k'=if k'=k then some v else GZ D k':=by
 induction D with
 |nil =>
  unfold EZ GZ En
  by_cases h:k'=k
  ·simp only[h,if_true]
  simp only[h,if_false,En]
 |cons x D ih =>
  obtain⟨a,w⟩:=x
  unfold EZ
  by_cases h:k=a
  ·subst h
   simp only[if_true]
   unfold GZ En
   by_cases h2:k'=k
   ·simp only[h2,if_true]
   simp only[h2,if_false]
  simp only[if_neg h]
  have step:∀(r:List (κ×Value)),GZ ((a,w)::r) k'=if k'=a then some w else GZ r k':=by
   intro r
   show(match(if k'=a then some (0,w)else match En r k' with
    |some (j,v)=>some (j+1,v)
    |none=>none)with
    |some (_,v)=>some v
    |none=>none)=if k'=a then some w else match En r k' with
    |some (_,v)=>some v
    |none=>none
   by_cases h2:k'=a
   ·rw[if_pos h2,if_pos h2]
   rw[if_neg h2,if_neg h2]
   cases En r k'<;>rfl
  rw[step,step,ih]
  by_cases h2:k'=a
  ·subst h2
   rw[if_pos rfl,if_neg (fun e=>h e.symm),if_pos rfl]
  rw[if_neg h2,if_neg h2]
variable{kc}
theorem gF{t:TypeId}(heq:∀a b,Cl P E' t (kc a) (kc b)=some (decide (a=b)))(k:κ):∀(D:List (κ×Value)) (c i:Nat),JP P t (kc k) (JO kc c D) i=some (match En D k with
  |some (j,v)=>some (i+j,v)
  |none=>none)
 | [],c,i=>rfl
 |(a,w)::D,c,i=>by
  unfold JO JP
  simp only[heq]
  by_cases h:k=a
  ·simp only[h,decide_true,En,if_true];rfl
  simp only[h,decide_false,En,if_false]
  rw[gF heq k D (c+1) (i+1)]
  cases En D k with
  |none=>rfl
  |some x=>simp only;rw[show i+1+x.1=i+(x.1+1) by omega]
theorem sk(k:κ):∀(D:List (κ×Value)) (c j:Nat) (w:Value),En D k=some (j,w)→∃e,nth (JO kc c D) j=some e∧e.key=kc k
 | [],c,j,w,h=>by cases h
 |(a,u)::D,c,j,w,h=>by
  unfold En at h
  by_cases hk:k=a
  ·rw[if_pos hk]at h
   cases h
   exact⟨_,rfl,by rw[hk]⟩
  rw[if_neg hk]at h
  split at h
  ·rename_i hp
   cases h
   exact sk k D (c+1) _ _ hp
  cases h
theorem sm(k:κ)(v:Value):∀(D:List (κ×Value)) (c j:Nat) (w:Value),En D k=some (j,w)→HS (JO kc c D) j (kc k) v=JO kc c (EZ D k v)
 | [],c,j,w,h=>by cases h
 |(a,u)::D,c,j,w,h=>by
  unfold En at h
  unfold EZ
  by_cases hk:k=a
  ·rw[if_pos hk]at h
   cases h
   rw[if_pos hk,hk];rfl
  rw[if_neg hk]at h ⊢
  split at h
  ·rename_i hp
   cases h
   show _::HS (JO kc (c+1) D) _ (kc k) v=_
   rw[sm k v D (c+1) _ _ hp]
   rfl
  cases h
theorem si(k:κ)(v:Value):∀(D:List (κ×Value)) (c:Nat),En D k=none→JO kc c D++[{key:=kc k,val:=v,born:=c+D.length}]=JO kc c (EZ D k v)
 | [],c,_=>rfl
 |(a,u)::D,c,h=>by
  unfold En at h
  unfold EZ
  by_cases hk:k=a
  ·rw[if_pos hk]at h;cases h
  rw[if_neg hk]at h ⊢
  split at h
  ·cases h
  rename_i hp
  have ih:=si k v D (c+1) hp
  show _::(JO kc (c+1) D++_)=_::JO kc (c+1) (EZ D k v)
  rw[←ih,List.length_cons,show c+(D.length+1)=c+1+D.length by omega]
theorem y7{k:κ}{v:Value}:∀{D:List (κ×Value)} {x:Nat×Value},En D k=some x→(EZ D k v).length=D.length
 | [],x,h=>by cases h
 |(a,u)::D,x,h=>by
  unfold En at h
  unfold EZ
  by_cases hk:k=a
  ·rw[if_pos hk];rfl
  rw[if_neg hk]at h ⊢
  split at h
  ·rename_i hp
   rw[List.length_cons,y7 hp,List.length_cons]
  cases h
theorem mj{k:κ}{v:Value}:∀{D:List (κ×Value)},En D k=none→(EZ D k v).length=D.length+1
 | [],_=>rfl
 |(a,u)::D,h=>by
  unfold En at h
  unfold EZ
  by_cases hk:k=a
  ·rw[if_pos hk]at h;cases h
  rw[if_neg hk]at h ⊢
  split at h
  ·cases h
  rename_i hp
  rw[List.length_cons,mj hp,List.length_cons]
def Bu(kc:κ→Value)(D:List (κ×Value)):AF:= .map (JO kc 0 D) D.length
theorem xP{S:St}{t kt et:TypeId}{r:Nat}{D:List (κ×Value)}{k:κ}{v:Value}(hu:P.underlying t=some (.map kt et))(hg:S.get r=some (Bu kc D))(heq:∀a b,Cl P E' kt (kc a) (kc b)=some (decide (a=b)))
  (BI:F4 P 20 kt (kc k)=true)(Dp:plainKey 20 (kc k)=true)(Jc:CP 1000 (kc k) (kc k)=true):Uw P t (.map (some r)) (kc k) v S=some (S.set r (Bu kc (EZ D k v))):=by
 unfold Uw
 simp only[hu,hg,Bu]
 rw[if_pos (by rw[BI,Dp];rfl),gF heq]
 cases hp:En D k with
 |none =>
  simp only
  rw[mj hp]
  have:=si (kc:=kc) k v D 0 hp
  rw[Nat.zero_add]at this
  rw[this]
 |some x =>
  obtain⟨j,w⟩:=x
  obtain⟨e,h1,h2⟩:=sk (kc:=kc) k D 0 j w hp
  simp only[Nat.zero_add,h1,h2,Jc,cond_true]
  rw[sm k v D 0 j w hp,y7 hp]
theorem N4{S:St}{t kt et:TypeId}{r:Nat}{D:List (κ×Value)}{k:κ}{z:Value}(hu:P.underlying t=some (.map kt et))(hg:S.get r=some (Bu kc D))(heq:∀a b,Cl P E' kt (kc a) (kc b)=some (decide (a=b)))
  (BI:F4 P 20 kt (kc k)=true)(hz:zeroV P et=some z):N3 P t (.map (some r)) (kc k) false S=some ((GZ D k).getD z):=by
 unfold N3 mapOf
 simp only[hu,hg,Bu,BI,if_true]
 rw[gF heq]
 unfold GZ
 cases En D k with
 |none=>simp only[hz];rfl
 |some x=>rfl
end
section
variable{κ:Type}[DecidableEq κ]{kc:κ→Value}
variable{n:Nat}{ro:Option Nat}{L:Env}{S S0:St}{Q:CV}{ops:List Oper}{i d:Nat}{o:Oper}{Ts:List St}{l:List (Nat×AF)}{gs:List Gr}
omit [DecidableEq κ]in
theorem mq(hl:AE S0 Ts S l gs){t:TypeId}(kc:κ→Value)(ho:nth ops i=some o)(AV:o.op= .makeMap t none)(hw:Be ops L o=some true)(hd:o.dst=some d)(hn:Nat.blt d n=true)
  (h:∀B S',AE S0 Ts S' ((B,Bu kc [])::l) gs→RE P K n ops (i+1) ((d,.map (some B))::L) S' Q):RE P K n ops i L S Q :=
 OE ho hw hd hn (fun a _=>⟨0,by rw[AV];unfold CG;simp only[kindOf,DY];rfl⟩) (h _ _ (hl.new _))
theorem YB(hl:AE S0 Ts S l gs)(j:Nat){t kt et:TypeId}{x y z:Operand}{M:Nat}{D:List (κ×Value)}{k:κ}{v:Value}(hk:nth l j=some (M,Bu kc D))(ho:nth ops i=some o)(AV:o.op= .mapUpdate t x y z)(hw:Be ops L o=some true)(hd:o.dst=none)
  (hx:A7 L x=some (.map (some M)))(hy:A7 L y=some (kc k))(hz:A7 L z=some v)(hu:P.underlying t=some (.map kt et))(heq:∀a b,Cl P E' kt (kc a) (kc b)=some (decide (a=b)))
  (BI:F4 P 20 kt (kc k)=true)(Dp:plainKey 20 (kc k)=true)(Jc:CP 1000 (kc k) (kc k)=true)
  (h:∀S',AE S0 Ts S' (Js j (Bu kc (EZ D k v)) l) gs→RE P K n ops (i+1) L S' Q):RE P K n ops i L S Q :=
 mu (v:=undef) ho hw hd (fun a ha=>⟨0,by rw[AV];unfold CG;simp only[kindOf,KH];rw[ha.ev hx,ha.ev hy,ha.ev hz,xP hu (hl.get j hk) heq BI Dp Jc]⟩) (h _ (hl.put hk rfl _))
theorem AJv(hl:AE S0 Ts S l gs)(j:Nat){t kt et:TypeId}{x y z:Operand}{M:Nat}{D:List (κ×Value)}{k:κ}{v:Value}(hk:nth l j=some (M,Bu kc D))(ho:nth ops i=some o)(AV:o.op= .insert t x y z)(hw:Be ops L o=some true)(hd:o.dst=none)
  (hx:A7 L x=some (.map (some M)))(hy:A7 L y=some (kc k))(hz:A7 L z=some v)(hu:P.underlying t=some (.map kt et))(heq:∀a b,Cl P E' kt (kc a) (kc b)=some (decide (a=b)))
  (BI:F4 P 20 kt (kc k)=true)(Dp:plainKey 20 (kc k)=true)(Jc:CP 1000 (kc k) (kc k)=true)
  (h:∀S',AE S0 Ts S' (Js j (Bu kc (EZ D k v)) l) gs→RE P K n ops (i+1) L S' Q):RE P K n ops i L S Q :=
 mu (v:=undef) ho hw hd (fun a ha=>⟨0,by rw[AV];unfold CG;simp only[kindOf,KH];rw[ha.ev hx,ha.ev hy,ha.ev hz,xP hu (hl.get j hk) heq BI Dp Jc]⟩) (h _ (hl.put hk rfl _))
end
end Go.Cm
namespace Go.Cm
open Go
variable{P:Program}{K:BX}
def Kq(L1 L':Env):Prop:= ∀k v,look L1 k=some v→look L' k=some v
theorem BN(L:Env):Kq L L:=fun _ _ h=>h
theorem BO{L L':Env}{k:Nat}{v:Value}(hk:look L k=none)(h:Kq L L'):Kq L ((k,v)::L'):=fun j u hj=>by
 rw[LR]
 by_cases e:j=k
 ·subst e;rw[hk]at hj;cases hj
 rw[if_neg e];exact h j u hj
theorem Has.Yd{n:Nat}{a:Ca}{L L':Env}(h:Has n a L)(hs:Kq L' L):Has n a L':=⟨h.nn,h.le,h.df,fun k v hk=>h.val k v (hs k v hk)⟩
theorem Af.Yd{L' L:Env}(h:Af L' L):Kq L' L:=h.look
section
variable{n:Nat}{ro:Option Nat}{L:Env}{S S0:St}{Q:CV}{Ts:List St}{l:List (Nat×AF)}{gs:List Gr}
theorem CR(_:AE S0 Ts S l gs){c:Code}(d:Nat)(v:Value)(h:XE P K n ro c L S fun e L' S'=>e= .normal∧look L' d=some v∧Kq L L'∧AE S0 Ts S' l gs)(hn:look L d=none)(hq:∀S',AE S0 Ts S' l gs→Q .normal ((d,v)::L) S'):XE P K n ro c L S Q:=by
 intro a ha
 obtain⟨m,e,a',S',L',h1,h2,h3,h4,h5,h6⟩:=h a ha
 subst h3
 refine⟨m,_,a',S',(d,v)::L,h1,h2.Yd fun k u hk=>?_,hq S' h6⟩
 rw[LR]at hk
 by_cases e:k=d
 ·subst e;rw[if_pos rfl]at hk;cases hk;exact h4
 rw[if_neg e]at hk;exact h5 k u hk
theorem JF{c:Code}(d:Nat)(I:Value→St→Prop)(h:XE P K n ro c L S fun e L' S'=>e= .normal∧∃v,look L' d=some v∧Kq L L'∧I v S')(hq:∀v S',I v S'→Q .normal ((d,v)::L) S'):XE P K n ro c L S Q:=by
 intro a ha
 obtain⟨m,e,a',S',L',h1,h2,h3,v,h4,h5,h6⟩:=h a ha
 subst h3
 refine⟨m,_,a',S',(d,v)::L,h1,h2.Yd fun k u hk=>?_,hq v S' h6⟩
 rw[LR]at hk
 by_cases e:k=d
 ·subst e;rw[if_pos rfl]at hk;cases hk;exact h4
 rw[if_neg e]at hk;exact h5 k u hk
theorem ABQ{c:Code}(I:St→Prop)(h:XE P K n ro c L S fun e L' S'=>e= .normal∧Kq L L'∧I S')(hq:∀S',I S'→Q .normal L S'):XE P K n ro c L S Q:=by
 intro a ha
 obtain⟨m,e,a',S',L',h1,h2,h3,h4,h5⟩:=h a ha
 subst h3
 exact⟨m,_,a',S',L,h1,h2.Yd h4,hq S' h5⟩
def AHk:Code→Bool
 | .label _=>true
 |_=>false
theorem ABR{c:Code}(hk:AHk c=true)(h:Q .normal L S):XE P K n ro c L S Q:=by
 cases c with
 |label l=>exact fun a ha=>⟨1,_,a,S,L,rfl,ha,h⟩
 |_=>cases hk
def eV(Q:CV):CV:=fun e L S=>match e with
 | .goto _=>False
 |e=>Q e L S
theorem ABS{c:Code}(hk:pK c=8)(h:XE P K n ro (pA c) L S (eV Q)):XE P K n ro c L S Q:=by
 have key:∀d,XE P K n ro d L S (eV Q)→XE P K n ro (.scope d) L S Q:=fun d hd=>ASw (py hd fun e L' S' hq=>by
  cases e with
  |goto l=>exact hq.elim
  |_=>exact⟨fun l=>(by intro h;cases h),hq⟩)
 cases c<;>first|exact key _ h|(rename_i d;cases d<;>cases hk)|cases hk
theorem Pk(h:Q .ret L S):eV Q .ret L S:=h
end
end Go.Cm
namespace Go.Cm
open Go
section
variable{S S0:St}{Ts:List St}{l l':List (Nat×AF)}{gs:List Gr}
theorem AE.perm(h:AE S0 Ts S l gs)(hp:l.Perm l'):AE S0 Ts S l' gs:=⟨h.AD,(hp.map _).nodup_iff.1 h.nd,fun b x hx=>h.at_ b x (hp.mem_iff.2 hx),h.rk,h.gr⟩
theorem AE.ABq(h:AE S0 Ts S l gs){S1:St}{b:Nat}{x:AF}(hl:∀c y,(c,y)∈l→c<S1.size)(h0:AL S0 S1)(hb:S1.size≤b)(hs:b<S.size)(hg:S.get b=some x):AE S0 Ts S (l++[(b,x)]) gs :=
 (h.add hl h0 hb hs hg).perm (List.perm_append_singleton ..).symm
end
end Go.Cm
namespace Go.Cm
open Go
variable{P:Program}{K:BX}
def xh(P:Program)(e:TypeId)(z:Value):Bool:=match P.info? e with
 |some ei=>Nat.ble ei.bytes 1024&&Nat.beq (BG z).length ei.size
 |none=>false
section
variable{n:Nat}{ro:Option Nat}{L:Env}{S S0:St}{Q:CV}{ops:List Oper}{i d:Nat}{o:Oper}{Ts:List St}{l:List (Nat×AF)}{gs:List Gr}
theorem mr(hl:AE S0 Ts S l gs){t e:TypeId}{x y:Operand}{z:Value}{k1 k2:IntKind}{i1 i2:Int}{m:Nat}(ho:nth ops i=some o)(AV:o.op= .makeSlice t x y)(hw:Be ops L o=some true)(hd:o.dst=some d)(hn:Nat.blt d n=true)
  (hx:A7 L x=some (.int k1 i1))(hy:A7 L y=some (.int k2 i2))(e1:i1=m)(e2:i2=m)(hu:P.underlying t=some (.slice e))(hz:zeroV P e=some z)(hb:xh P e z=true)(hm:m≤Ae)
  (h:∀B S',AE S0 Ts S' ((B,.cells (EE m (BG z)) e true true [])::l) gs→RE P K n ops (i+1) ((d,.slice (some ⟨B,0,none⟩) m m)::L) S' Q):RE P K n ops i L S Q:=by
 unfold xh at hb
 split at hb
 ·rename_i ei hi
  rw[Bool.and_eq_true]at hb
  exact AJx hl ho AV hw hd hn hx hy e1 e2 hu hi hz hb.1 (Bc hb.2) hm h
 cases hb
end
theorem ANG{α:Type}(x y:α)(r:List α):Bq 0 [y] (x::r)=some (y::r):=by
 cases r<;>simp[Bq]
theorem yG{α:Type}(f:Nat→α):∀(n k i:Nat),i<n→nth ((List.range' k n).map f) i=some (f (k+i))
 |n+1,k,0,_=>rfl
 |n+1,k,i+1,h=>by
  show nth ((List.range' (k+1) n).map f) i=_
  rw[yG f n (k+1) i (by omega)]
  congr 2;omega
end Go.Cm
namespace Go.Cm
open Go
variable{P:Program}{K:BX}
section
variable{ih:Ap}{full:List Oper}
end
end Go.Cm
namespace Go.Cm
open Go
variable{P:Program}{K:BX}
section
variable{n:Nat}{ro:Option Nat}{L:Env}{S:St}{ds:List Deferred}{Q:Exit→Env→St→List Deferred→Prop}
end
section
variable{n:Nat}{ro:Option Nat}{L:Env}{S:St}{Q:CV}{ops:List Oper}{i d:Nat}{o:Oper}
end
end Go.Cm
namespace Go.Cm
open Go
variable{P:Program}{K:BX}
abbrev eQ:=Exit→Env→St→List Deferred→Prop
section
variable{n:Nat}{L:Env}{S:St}{ds:List Deferred}{Q:eQ}{ops:List Oper}{i d:Nat}{o:Oper}
end
section
variable{k n:Nat}{L:Env}{S:St}{ds:List Deferred}{Q:eQ}{c:Code}
end
abbrev eR:=Env→St→Mode→Prop
section
variable{n:Nat}{L:Env}{S:St}{md:Mode}{Q:eR}{ops:List Oper}{i d:Nat}{o:Oper}
end
section
variable{k n:Nat}{L:Env}{S:St}{md:Mode}{Q:Exit→eR}{c:Code}
end
end Go.Cm
namespace Go.Cm
open Go
variable{P:Program}{K:BX}{n:Nat}{ro:Option Nat}{L:Env}{S S0:St}{Q:CV}{ops:List Oper}{i d:Nat}{o:Oper}{Ts:List St}{l:List (Nat×AF)}{gs:List Gr}
def gb:Value→Option Nat
 | .slice (some ⟨b,_,_⟩) _ _=>some b
 |_=>none
def M6(gs:List Gr):Prop:= ∀i j g h,i≠j→nth gs i=some g→nth gs j=some h→gb g.v=none∨gb g.v≠gb h.v
theorem AB0{e:TypeId}{base:Option Addr}{len cap m size:Nat}{new:List Value}{v:Value}{S':St}(hle:Nat.ble (len+m) cap=false)(h:Fw P e base len cap m size new S=some (v,S')) :
  gb v=some S.size∧∀b,b<S.size→S'.get b=S.get b∨gb (.slice base len cap)=some b:=by
 unfold Fw at h
 rw[hle]at h
 simp only[cond_false]at h
 cases hc:(MB P e size (len+m)&&Fw.Ol new)with
 |false=>rw[hc]at h;cases h
 |true =>
  rw[hc]at h
  simp only[cond_true]at h
  unfold OZ at h
  split at h
  ·cases hb:Nat.beq len 0 with
   |false=>rw[hb]at h;cases h
   |true =>
    rw[hb]at h
    simp only[cond_true,Option.some.injEq]at h
    cases h
    exact⟨rfl,fun b hb=> .inl ((AL.new S _).2 b hb)⟩
  ·cases hb:Nat.beq len 0 with
   |false=>rw[hb]at h;cases h
   |true =>
    rw[hb]at h
    simp only[cond_true,Option.some.injEq]at h
    cases h
    exact⟨rfl,fun b hb=> .inl ((AL.new S _).2 b hb)⟩
  rename_i b o
  split at h
  ·rename_i c e2 kin hg
   split at h
   ·rename_i old ho
    cases hb:(Nat.beq e2 e&&Nat.beq (o+len*size) c.length)with
    |false=>rw[hb]at h;cases h
    |true =>
     rw[hb]at h
     simp only[cond_true,Option.some.injEq]at h
     cases h
     refine⟨rfl,fun j hj=>?_⟩
     rw[(AL.new (S.set b (.cells c e2 true false kin)) _).2 j hj,Ee]
     by_cases e:j=b
     ·subst e;exact .inr rfl
     exact .inl (by rw[if_neg e])
   cases h
  cases h
theorem Xh:∀{k j:Nat} {x:Gr} {l:List Gr},j≠k→nth (I9 k x l) j=nth l j
 |k,_,_,[],_=>by cases k<;>rfl
 |0,0,_,_::_,h=>absurd rfl h
 |0,_+1,_,_::_,_=>rfl
 |_+1,0,_,_::_,_=>rfl
 |k+1,j+1,x,_::l,h=>Xh (k:=k) (j:=j) (l:=l) fun e=>h (by rw[e])
theorem bp:∀{k:Nat} {x y:Gr} {l:List Gr},nth (I9 k x l) k=some y→y=x
 |k,_,_,[],h=>by cases k<;>cases h
 |0,_,_,_::_,h=>(Option.some.inj h).symm
 |k+1,x,y,_::l,h=>bp (k:=k) (l:=l) h
theorem xS:∀{l:List Gr} {x:Gr},x∈l→∃j,nth l j=some x
 |y::l,x,h=>by
  rcases List.mem_cons.1 h with rfl|h
  ·exact⟨0,rfl⟩
  obtain⟨j,hj⟩:=xS h
  exact⟨j+1,hj⟩
theorem tZ{g:Gr}{b:Nat}(h:Am S0 S g)(hb:gb g.v=some b):b<S.size:=by
 rcases h with ⟨h1,_⟩|⟨b2,kin,h1,_,h3,_⟩
 ·rw[h1]at hb;cases hb
 rw[h1]at hb;cases hb;exact h3
theorem AB4(hl:AE S0 Ts S l gs)(hA:M6 gs){k:Nat}{g:Gr}(hk:nth gs k=some g)(hr:(l.all fun p=>!Nu p.2)=true){ts:Array TypeId}{sT xT:TypeId}{xd:TypeDesc}{x:Value}{m:Nat}{new:List Value}
  (CT:ts.toList= [sT,xT])
  (hu:P.underlying sT=some (.slice g.e))(Dd:P.underlying xT=some xd)(hi:FV xd=false)(hlen:F6 x=some m)(hm:0<m)(hs:EN S g.z m x=some new)(hz:A5 P g.e=some g.z)
  (Cb:new.length=m*g.z)(hc:new.all D9=true)(FF:Io P g.e g.z=true)(FU:g.n+m≤Ae) :
  ∃v S',ER P .append ts.toList [g.v,x] S=some (v,S')∧AE S0 Ts S' l (I9 k ⟨v,g.e,g.z,g.c++new,g.n+m⟩ gs)∧M6 (I9 k ⟨v,g.e,g.z,g.c++new,g.n+m⟩ gs):=by
 have K8:=hl.gr g (BV hk)
 obtain⟨base,hv⟩:∃base,g.v= .slice base g.n g.n:=by
  rcases K8 with ⟨h1,_,h3⟩|⟨b,kin,h1,_⟩
  ·exact⟨none,by rw[h1,h3]⟩
  exact⟨_,h1⟩
 obtain⟨v',S',h1,h2,h3⟩:=qZ (P:=P) K8 hl.AD.1 hm Cb hc (Wf FF FU) hv
 obtain⟨k1,k2⟩:=AB0 (by cases hb:Nat.ble (g.n+m) g.n with
  |false=>rfl
  |true=>have:=Nat.le_of_ble_eq_true hb;omega) h1
 have AGn:∀j y,nth gs j=some y→j≠k→Am S0 S' y:=fun j y hy hj=>by
  rcases hl.gr y (BV hy)with h|⟨b,kin,j1,j2,j3,j4,j5⟩
  ·exact .inl h
  refine .inr ⟨b,kin,j1,j2,Nat.lt_of_lt_of_le j3 h3.1,?_,j5⟩
  rcases k2 b j3 with e|e
  ·exact e.trans j4
  rw[←hv]at e
  rcases hA k j g y (Ne.symm hj) hk hy with a|a
  ·rw[a]at e;cases e
  exact absurd (by rw[e,j1];rfl) a
 refine⟨v',S',?_,?_,?_⟩
 ·unfold ER
  simp only
  have:Fx P ts.toList g.v x S=some (v',S'):=by
   unfold Fx
   rw[CT]
   simp only[hu,Dd,hlen,hv,hi,hz,hs,cond_false]
   exact h1
  rw[this]
 ·refine⟨⟨Nat.le_trans hl.AD.1 h3.1,fun b hb=>?_,fun f=>h3.2.2 (hl.AD.3 f)⟩,hl.nd,fun b x hx=>?_,fun T ht=>(hl.rk T ht).trans h3.rk,fun y hy=>?_⟩
  ·have Bj:=Nat.lt_of_lt_of_le hb hl.AD.1
   rcases h3.2.1 b Bj with e|⟨_,_,_,h2,_⟩
   ·exact e.trans (hl.AD.2 b hb)
   omega
  ·obtain⟨h1,h2,h4⟩:=hl.at_ b x hx
   refine⟨?_,h2,Nat.lt_of_lt_of_le h4 h3.1⟩
   rcases h3.2.1 b h4 with e|⟨c,kin,k1,_,_⟩
   ·exact e.trans h1
   rw[h1]at k1
   cases k1
   have:=List.all_eq_true.1 hr _ hx
   cases this
  obtain⟨j,hj⟩:=xS hy
  by_cases e:j=k
  ·subst e;rw[bp hj];exact h2
  rw[Xh e]at hj
  exact AGn j y hj e
 intro i j x y MJ hx hy
 by_cases e:i=k
 ·subst e
  rw[bp hx]
  rw[Xh (Ne.symm MJ)]at hy
  refine .inr fun e2=>?_
  have:=tZ (hl.gr y (BV hy)) (b:=S.size) (by rw[←e2];exact k1)
  omega
 rw[Xh e]at hx
 by_cases e3:j=k
 ·subst e3
  rw[bp hy]
  refine .inr fun e2=>?_
  have:=tZ (hl.gr x (BV hx)) (b:=S.size) (by rw[e2];exact k1)
  omega
 rw[Xh e3]at hy
 exact hA i j x y MJ hx hy
theorem zF(hl:AE S0 Ts S l gs)(hA:M6 gs)(k:Nat){g:Gr}(hk:nth gs k=some g)(hr:(l.all fun p=>!Nu p.2)=true){as:Array Operand}{ts:Array TypeId}{sT xT:TypeId}{xd:TypeDesc}{x:Value}{m:Nat}{new:List Value}
  (ho:nth ops i=some o)(AV:o.op= .call ⟨.builtin .append,as,ts⟩)(hw:Be ops L o=some true)(Hg:o.dst=some d)(AN:Nat.blt d n=true)(hx:D3 L as.toList=some [g.v,x])(CT:ts.toList= [sT,xT])
  (hu:P.underlying sT=some (.slice g.e))(Dd:P.underlying xT=some xd)(hi:FV xd=false)(hlen:F6 x=some m)(hm:0<m)(hz:A5 P g.e=some g.z)(hs:EN S g.z m x=some new)
  (Cb:new.length=m*g.z)(hc:new.all D9=true)(FF:Io P g.e g.z=true)(FU:g.n+m≤Ae)
  (h:∀v S',AE S0 Ts S' l (I9 k ⟨v,g.e,g.z,g.c++new,g.n+m⟩ gs)→M6 (I9 k ⟨v,g.e,g.z,g.c++new,g.n+m⟩ gs)→RE P K n ops (i+1) ((d,v)::L) S' Q):RE P K n ops i L S Q:=by
 obtain⟨v,S',h1,h2,h3⟩:=AB4 hl hA hk hr CT hu Dd hi hlen hm hs hz Cb hc FF FU
 exact mo ho AV hw Hg AN rfl hx h1 (h v S' h2 h3)
end Go.Cm
namespace Go.Cm
open Go
variable{P:Program}{K:BX}{n:Nat}{ro:Option Nat}{L:Env}{S S0:St}{Q:CV}{ops:List Oper}{i d:Nat}{o:Oper}
def Ky(e:TypeId)(ks:List Nat):List (Nat×AF):=ks.map fun k=>(k,.cells [] e true false [])
theorem AE4(e:TypeId)(ks:List Nat):(Ky e ks).map (·.1)=ks:=by
 unfold Ky
 rw[List.map_map]
 exact List.map_id _
theorem AE.y6{r:List (Nat×AF)}{b:Nat}{c:List Value}{e:TypeId}{ks:List Nat}(h:AE S0 [S0] S (r++(b,.cells c e true true ks)::Ky e ks) [])(y:AF) :
  AE S0 [S0] ((S.kill ks).set b y) (r++[(b,y)]) []:=by
 have Gf:=h.nd
 rw[List.map_append,List.map_cons,AE4]at Gf
 have hb:=h.at_ b _ (List.mem_append.2 (.inr (List.mem_cons_self ..)))
 have G2:∀k,k∈ks→S0.size≤k:=fun k hk=>(h.at_ k (.cells [] e true false []) (List.mem_append.2 (.inr (List.mem_cons_of_mem _ (List.mem_map.2 ⟨k,hk,rfl⟩))))).2.1
 have Dm:∀j,j≠b→j∉ks→((S.kill ks).set b y).get j=S.get j:=fun j h1 h2=>by
  rw[Ee,if_neg h1,LQ,if_neg h2]
 have A4:((S.kill ks).set b y).size=S.size:=PQ ks S
 have hold:∀j,j<S0.size→((S.kill ks).set b y).get j=S.get j:=fun j hj=>Dm j (by have:=hb.2.1;omega) (fun hm=>by have:=G2 j hm;omega)
 have Ng:=(List.nodup_append.1 Gf)
 refine⟨⟨by rw[A4];exact h.AD.1,fun j hj=>(hold j hj).trans (h.AD.2 j hj),fun f=>?_⟩,?_,fun j x hx=>?_,fun T ht=>?_,fun g hg=>(List.not_mem_nil hg).elim⟩
 ·intro j hj
  rw[A4]at hj
  rw[Ee,if_neg (by have:=hb.2.2;omega),LQ]
  split
  ·rfl
  exact h.AD.3 f j hj
 ·rw[List.map_append,List.map_cons,List.map_nil]
  refine List.nodup_append.2 ⟨Ng.1,List.nodup_cons.2 ⟨List.not_mem_nil,List.nodup_nil⟩,fun a ha c hc=>?_⟩
  rw[List.mem_singleton.1 hc]
  exact Ng.2.2 a ha b (List.mem_cons_self ..)
 ·rw[A4]
  rcases List.mem_append.1 hx with hx|hx
  ·have hm:=h.at_ j x (List.mem_append.2 (.inl hx))
   have hj:j∈r.map (·.1):=List.mem_map.2 ⟨(j,x),hx,rfl⟩
   refine⟨?_,hm.2⟩
   rw[Dm j (Ng.2.2 j hj b (List.mem_cons_self ..)) (fun hk=>Ng.2.2 j hj j (List.mem_cons_of_mem _ hk) rfl)]
   exact hm.1
  cases List.mem_singleton.1 hx
  exact⟨by rw[Ee,if_pos rfl],hb.2⟩
 rw[List.mem_singleton.1 ht]
 refine⟨by rw[A4];exact h.AD.1,fun j e2 c2 ⟨hj,own,kin,hg⟩=>⟨by rw[A4];exact Nat.lt_of_lt_of_le hj h.AD.1,own,kin,?_⟩⟩
 rw[hold j hj,h.AD.2 j hj]
 exact hg
theorem AAu{t:TypeId}{b off:Nat}{v:Value}{c c':List Value}{e:TypeId}{ks:List Nat}(hz:Kc P t v=true)
  (hg:S.get b=some (.cells c e true true ks))(hs:Bq off (BG v) c=some c'):Fs P t (ptrTo b off) v S=some ((S.kill ks).set b (.cells c' e true true [])):=by
 unfold Kc at hz
 unfold Fs ptrTo
 split at hz
 ·rename_i z h1
  simp only[Bool.and_eq_true]at hz
  obtain⟨⟨h2,h3⟩,h4⟩:=hz
  simp only[h1,h2,cond_true]
  unfold Jx
  rw[hg]
  simp only[h3,h4,Bool.and_true,cond_true,hs]
 cases hz
theorem AUU{Ts:List St}{l:List (Nat×AF)}{gs:List Gr}(hl:AE S0 Ts S l gs){t elem:TypeId}{len:Nat}{ps:Array (Nat×Operand)}{us:List (Nat×Value)}{c:List Value}(ho:nth ops i=some o)(AV:o.op= .buildSlice t len ps)(hw:Be ops L o=some true)(hd:o.dst=some d)(hn:Nat.blt d n=true)
  (hu:P.underlying t=some (.slice elem))(hx:J9 L ps.toList=some us)(hc:NP P elem len us=some c)
  (h:∀B S',AE S0 Ts S' ((B,.cells c elem true true [])::l) gs→RE P K n ops (i+1) ((d,.slice (some ⟨B,0,none⟩) len len)::L) S' Q):RE P K n ops i L S Q :=
 zG ho AV hw hd hn hu hx hc (h _ _ (hl.new _))
theorem AB7{l:List (Nat×AF)}{B0:Nat}{e:TypeId}(hl:AE S0 [S0] S ((B0,.cells [] e true true [])::l) []){ts:Array TypeId}{sT xT:TypeId}{xd:TypeDesc}{x:Value}{m z:Nat}{new:List Value}
  (CT:ts.toList= [sT,xT])(hu:P.underlying sT=some (.slice e))(Dd:P.underlying xT=some xd)(hi:FV xd=false)(hlen:F6 x=some m)(hm:0<m)(hz:A5 P e=some z)(hs:EN S z m x=some new)
  (hc:new.all D9=true)(FF:Io P e z=true)(FU:m≤Ae) :
  ∃B S',ER P .append ts.toList [.slice (some ⟨B0,0,none⟩) 0 0,x] S=some (.slice (some ⟨B,0,none⟩) m m,S')∧AE S0 [S0] S' ((B,.cells new e true true [B0])::(B0,.cells [] e true false [])::l) []:=by
 have h0:=hl.get 0 rfl
 have hp:=(hl.yz (k:=0) rfl (hl.old (k:=0) rfl) (.cells [] e true false [])).new (.cells new e true true [B0])
 refine⟨_,_,?_,hp⟩
 unfold ER
 simp only
 have hb:Nat.ble (0+m) 0=false:=by
  cases hb:Nat.ble (0+m) 0 with
  |false=>rfl
  |true=>have:=Nat.le_of_ble_eq_true hb;omega
 have:Fx P ts.toList (.slice (some ⟨B0,0,none⟩) 0 0) x S=some (.slice (some ⟨(S.set B0 (.cells [] e true false [])).size,0,none⟩) m m,((S.set B0 (.cells [] e true false [])).new (.cells new e true true [B0])).2):=by
  unfold Fx
  rw[CT]
  simp only[hu,Dd,hlen,hi,hz,hs,cond_false]
  unfold Fw Fw.Ol
  rw[hb,Wf FF (by omega:0+m≤Ae),hc]
  simp only[cond_false,Bool.and_self,cond_true]
  unfold OZ
  simp only[h0,Nat.zero_mul,Nat.add_zero,List.length_nil,IN,Bool.and_self,cond_true,Nat.zero_add]
  rfl
 rw[this]
def To(e:TypeId)(aw:Option Addr)(m:Nat)(new:List Value)(tl:List (Nat×AF)):Prop :=
 (∃B0,m=0∧new= []∧aw=some ⟨B0,0,none⟩∧tl= [(B0,.cells [] e true true [])]) ∨
 ∃B B0,0<m∧aw=some ⟨B,0,none⟩∧tl= [(B,.cells new e true true [B0]),(B0,.cells [] e true false [])]
theorem AB6{l:List (Nat×AF)}{B0:Nat}{e:TypeId}(hl:AE S0 [S0] S ((B0,.cells [] e true true [])::l) []){ts:Array TypeId}{sT xT:TypeId}{xd:TypeDesc}{x:Value}{m z:Nat}{new:List Value}
  (CT:ts.toList= [sT,xT])(hu:P.underlying sT=some (.slice e))(Dd:P.underlying xT=some xd)(hi:FV xd=false)(hlen:F6 x=some m)(hz:A5 P e=some z)(hs:EN S z m x=some new)
  (Cb:new.length=m*z)(hc:new.all D9=true)(FF:Io P e z=true)(FU:m≤Ae) :
  ∃aw tl S',ER P .append ts.toList [.slice (some ⟨B0,0,none⟩) 0 0,x] S=some (.slice aw m m,S')∧To e aw m new tl∧AE S0 [S0] S' (tl++l) []:=by
 by_cases hm:0<m
 ·obtain⟨B,S',h1,h2⟩:=AB7 hl CT hu Dd hi hlen hm hz hs hc FF FU
  exact⟨_,_,S',h1,.inr ⟨B,B0,hm,rfl,rfl⟩,h2⟩
 obtain rfl:m=0:=by omega
 obtain rfl:new= []:=List.eq_nil_of_length_eq_zero (by rw[Cb,Nat.zero_mul])
 refine⟨some ⟨B0,0,none⟩,[(B0,.cells [] e true true [])],S,?_,.inl ⟨B0,rfl,rfl,rfl,rfl⟩,hl⟩
 unfold ER
 simp only
 have:Fx P ts.toList (.slice (some ⟨B0,0,none⟩) 0 0) x S=some (.slice (some ⟨B0,0,none⟩) 0 0,S):=by
  unfold Fx
  rw[CT]
  simp only[hu,Dd,hlen,hi,hz,hs,cond_false]
  unfold Fw
  have hb:Nat.ble (0+0) 0=true:=rfl
  rw[hb]
  simp only[cond_true]
  unfold Tv
  rfl
 rw[this]
section
variable{AJ:List Nat}{pl:List (Oper×Nat)}{q j:Nat}{E:List DE}
theorem zU{l:List (Nat×AF)}{B0:Nat}{e:TypeId}(hl:AE S0 [S0] S ((B0,.cells [] e true true [])::l) []){as:Array Operand}{ts:Array TypeId}{sT xT:TypeId}{xd:TypeDesc}{x:Value}{m z:Nat}{new:List Value}
  (ho:nth pl q=some (o,j))(AV:o.op= .call ⟨.builtin .append,as,ts⟩)(hw:Be ops L o=some true)(Hg:o.dst=some d)(AN:Nat.blt d n=true)(hx:D3 L as.toList=some [.slice (some ⟨B0,0,none⟩) 0 0,x])(CT:ts.toList= [sT,xT])
  (hu:P.underlying sT=some (.slice e))(Dd:P.underlying xT=some xd)(hi:FV xd=false)(hlen:F6 x=some m)(hz:A5 P e=some z)(hs:EN S z m x=some new)
  (Cb:new.length=m*z)(hc:new.all D9=true)(FF:Io P e z=true)(FU:m≤Ae)
  (h:∀aw tl S',To e aw m new tl→AE S0 [S0] S' (tl++l) []→FP P n S' ((nth AJ j).getD 0) E∧RP P K n ops AJ pl (q+1) (left ((nth AJ j).getD 0) E) ((d,.slice aw m m)::L) S' Q):RP P K n ops AJ pl q E L S Q:=by
 obtain⟨aw,tl,S',h1,h2,h3⟩:=AB6 hl CT hu Dd hi hlen hz hs Cb hc FF FU
 exact YG ho (by rw[AV];rfl) hw Hg AN (fun a ha=>⟨0,by rw[AV];unfold CG;simp only[kindOf,NW ha hx,h1]⟩) (h aw tl S' h2 h3).1 (h aw tl S' h2 h3).2
theorem nM{Ts:List St}{l:List (Nat×AF)}{gs:List Gr}(hF:BW S0)(hl:AE S0 Ts S l gs){t elem:TypeId}{len:Nat}{ps:Array (Nat×Operand)}{us:List (Nat×Value)}{c:List Value}(ho:nth pl q=some (o,j))(AV:o.op= .buildSlice t len ps)(hw:Be ops L o=some true)(hd:o.dst=some d)(hn:Nat.blt d n=true)
  (hu:P.underlying t=some (.slice elem))(hx:J9 L ps.toList=some us)(hc:NP P elem len us=some c)
  (h:∀B S',AE S0 Ts S' ((B,.cells c elem true true [])::l) gs→RP P K n ops AJ pl (q+1) (⟨j,o.op,undef,L,some (B,c,elem,true)⟩::E) ((d,.slice (some ⟨B,0,none⟩) len len)::L) S' Q):RP P K n ops AJ pl q E L S Q :=
 nN ho (by rw[AV];rfl) hw hd hn (rX AV hu hx hc) (hl.AD.3 hF _ (Nat.le_refl _)) (h _ _ (hl.new _))
theorem AKT{b off:Nat}{c c':List Value}{e:TypeId}{ks:List Nat}{t:TypeId}{x y:Operand}{v:Value}(r0:List (Nat×AF))(hl:AE S0 [S0] S (r0++(b,.cells c e true true ks)::Ky e ks) [])(ho:nth pl q=some (o,j))(AV:o.op= .store t x y)(hw:Be ops L o=some true)(hd:o.dst=none)(hx:A7 L x=some (ptrTo b off))(hy:A7 L y=some v)
  (hz:Kc P t v=true)(hs:Bq off (BG v) c=some c')
  (h:∀S',AE S0 [S0] S' (r0++[(b,.cells c' e true true [])]) []→FP P n S' ((nth AJ j).getD 0) E∧RP P K n ops AJ pl (q+1) (left ((nth AJ j).getD 0) E) L S' Q):RP P K n ops AJ pl q E L S Q :=
 R3 ho AV hw hd hx hy (AAu hz (hl.at_ b _ (List.mem_append.2 (.inr (List.mem_cons_self ..)))).1 hs) (h _ (hl.y6 _)).1 (h _ (hl.y6 _)).2
end
theorem AE.join{S1 S2:St}{l r:List (Nat×AF)}(h0:AE S0 [S0] S1 l [])(h1:AE S1 [S1] S2 r []):AE S0 [S0] S2 (l++r) []:=by
 refine⟨h0.AD.trans h1.AD,?_,fun b x hx=>?_,fun T ht=>?_,fun g hg=>(List.not_mem_nil hg).elim⟩
 ·rw[List.map_append]
  refine List.nodup_append.2 ⟨h0.nd,h1.nd,fun a ha c hc=>?_⟩
  obtain⟨⟨a,x⟩,Fi,rfl⟩:=List.mem_map.1 ha
  obtain⟨⟨c,y⟩,Q6,rfl⟩:=List.mem_map.1 hc
  have e1:=(h0.at_ a x Fi).2.2
  have e2:=(h1.at_ c y Q6).2.1
  show a≠c
  omega
 ·rcases List.mem_append.1 hx with hx|hx
  ·obtain⟨e1,e2,e3⟩:=h0.at_ b x hx
   exact⟨(h1.AD.2 b e3).trans e1,e2,Nat.lt_of_lt_of_le e3 h1.AD.1⟩
  obtain⟨e1,e2,e3⟩:=h1.at_ b x hx
  exact⟨e1,Nat.le_trans h0.AD.1 e2,e3⟩
 rw[List.mem_singleton.1 ht]
 exact(h0.rk S0 (List.mem_cons_self ..)).trans (h1.rk S1 (List.mem_cons_self ..))
end Go.Cm
namespace Go.Cm
open Go
variable{P:Program}{K:BX}
section
variable{n:Nat}{L:Env}{S:St}{o:Oper}
end
section
variable{n:Nat}{ro:Option Nat}{L:Env}{S:St}{ds:List Deferred}{Q:Exit→Env→St→List Deferred→Prop}
end
section
variable{n:Nat}{L:Env}{S:St}{md:Mode}{Q:eR}{ops:List Oper}{i d:Nat}{o:Oper}
end
end Go.Cm
namespace Go.Cm
open Go
variable{P:Program}{K:BX}
def VN(ops:List Oper)(i:Nat)(L:Env)(n:Nat):Option (Oper×Nat):=match nth ops i with
 |some o=>match Be ops L o with
  |some true=>match o.dst with
   |some d=>bif Nat.blt d n then some (o,d)else none
   |none=>none
  |_=>none
 |none=>none
def pv(L:Env)(op:Op):Option Value:=match op with
 | .move x=>A7 L x
 | .assign x=>A7 L x
 | .extract x j=>match A7 L x with
  |some (.tuple vs)=>nth vs.toList j
  |_=>none
 | .pick c x y=>match A7 L c with
  |some (.bool true)=>A7 L x
  |some (.bool false)=>A7 L y
  |_=>none
 |_=>none
def da(ops:List Oper)(i:Nat)(L:Env)(n:Nat):Option (Nat×Value):=match VN ops i L n with
 |some (o,d)=>match pv L o.op with
  |some v=>some (d,v)
  |none=>none
 |none=>none
def oJ(ops:List Oper)(i:Nat)(L:Env)(n:Nat):Option Nat:=match nth ops i with
 |some o=>match Be ops L o with
  |some false=>match o.dst with
   |some d=>bif Nat.blt d n then some d else none
   |none=>none
  |_=>none
 |none=>none
section
variable{n:Nat}{ro:Option Nat}{L:Env}{S S0:St}{Q:CV}{ops:List Oper}{i d:Nat}{o:Oper}
theorem YX(h:VN ops i L n=some (o,d)):nth ops i=some o∧Be ops L o=some true∧o.dst=some d∧Nat.blt d n=true:=by
 unfold VN at h
 split at h
 ·rename_i o' h1
  split at h
  ·rename_i h2
   split at h
   ·rename_i d' h3
    cases hb:Nat.blt d' n with
    |true =>
     rw[hb]at h
     cases h
     exact⟨h1,h2,h3,hb⟩
    |false=>rw[hb]at h;cases h
   cases h
  cases h
 cases h
theorem AOr(h:oJ ops i L n=some d):∃o,nth ops i=some o∧Be ops L o=some false∧o.dst=some d∧Nat.blt d n=true:=by
 unfold oJ at h
 split at h
 ·rename_i o' h1
  split at h
  ·rename_i h2
   split at h
   ·rename_i d' h3
    cases hb:Nat.blt d' n with
    |true =>
     rw[hb]at h
     cases h
     exact⟨o',h1,h2,h3,hb⟩
    |false=>rw[hb]at h;cases h
   cases h
  cases h
 cases h
theorem y9{v:Value}(h:pv L o.op=some v):Rd P n L S o v:=by
 unfold pv at h
 split at h
 ·rename_i x AV;exact AJm AV h
 ·rename_i x AV;exact AJk AV h
 ·rename_i x j AV
  split at h
  ·rename_i vs hx;exact AJl AV hx h
  cases h
 ·rename_i c x y AV
  split at h
  ·rename_i hc;exact AJp AV hc h
  ·rename_i hc;exact AJo AV hc h
  cases h
 cases h
theorem AOs{v:Value}(h:da ops i L n=some (d,v)):∃o,VN ops i L n=some (o,d)∧pv L o.op=some v:=by
 unfold da at h
 split at h
 ·rename_i o' d' h1
  split at h
  ·rename_i v' h2;cases h;exact⟨o',h1,h2⟩
  cases h
 cases h
theorem rr{v:Value}(h:VN ops i L n=some (o,d))(hr:Rd P n L S o v)(k:RE P K n ops (i+1) ((d,v)::L) S Q):RE P K n ops i L S Q :=
 AJz (YX h).1 (YX h).2.1 (YX h).2.2.1 (YX h).2.2.2 hr k
theorem rm{v:Value}(h:da ops i L n=some (d,v))(k:RE P K n ops (i+1) ((d,v)::L) S Q):RE P K n ops i L S Q:=by
 obtain⟨o,h1,h2⟩:=AOs h
 exact rr h1 (y9 h2) k
theorem rz(h:oJ ops i L n=some d)(k:RE P K n ops (i+1) ((d,undef)::L) S Q):RE P K n ops i L S Q:=by
 obtain⟨o,h1,h2,h3,h4⟩:=AOr h
 exact AJy h1 h2 h3 h4 k
theorem xg{c:Code}(h:(Nat.beq (pK c) 1&&D' P (pO c))=true)(k:RE P K n (pO c) 0 L S Q):XE P K n ro c L S Q:=by
 rw[Bool.and_eq_true]at h
 exact JG (Bc h.1) h.2 k
theorem xs{c:Code}(h:(Nat.beq (pK c) 3&&(Nat.beq (pK (pA c)) 1&&D' P (pO (pA c))))=true)(k:RE P K n (pO (pA c)) 0 L S (Lq P K n ro (pB c) Q)):XE P K n ro c L S Q:=by
 rw[Bool.and_eq_true]at h
 exact AG (Bc h.1) (xg h.2 k)
theorem rl{Ts:List St}{l:List (Nat×AF)}{gs:List Gr}(hl:AE S0 Ts S l gs)(k:Nat){t:TypeId}{x:Operand}{b off:Nat}{c:List Value}{e:TypeId}{row own:Bool}{kin:List Nat}{v:Value}(AV:o.op= .load t x)(hx:A7 L x=some (ptrTo b off))(ha:Fv P t=some false)
  (hk:nth l k=some (b,.cells c e row own kin))(hv:nth c off=some v):Rd P n L S o v:=CU AV hx (C4 ha (hl.get k hk) hv)
def BU(P:Program)(t:TypeId):Bool:=match P.underlying t with
 |some (.struct fs)=>fs.toList.all fun f=>aB P f.type
 |_=>false
theorem fa{t:TypeId}{fs:Array Field}(hu:P.underlying t=some (.struct fs))(ha:BU P t=true){f:Field}{j b o:Nat}(hf:nth fs.toList j=some f):H4 P t (ptrTo b o) j=some (ptrTo b (o+f.offset)):=by
 unfold BU at ha
 rw[hu]at ha
 exact AFT hu hf (List.all_eq_true.1 ha f (BV hf))
section
variable{AJ:List Nat}{pl:List (Oper×Nat)}{q j:Nat}{E:List DE}
def Pc(pl:List (Oper×Nat))(ops:List Oper)(q:Nat)(L:Env)(n:Nat)(w:Bool):Option (Oper×Nat×Nat):=match nth pl q with
 |some (o,j)=>match Be ops L o with
  |some true=>match o.dst with
   |some d=>bif Nat.blt d n&&(looks o.op==w)then some (o,j,d)else none
   |none=>none
  |_=>none
 |none=>none
def mX(pl:List (Oper×Nat))(ops:List Oper)(q:Nat)(L:Env)(n:Nat):Option (Nat×Value):=match Pc pl ops q L n false with
 |some (o,_,d)=>match pv L o.op with
  |some v=>some (d,v)
  |none=>none
 |none=>none
def yw(pl:List (Oper×Nat))(ops:List Oper)(q:Nat)(L:Env)(n:Nat):Option Nat:=match nth pl q with
 |some (o,_)=>match Be ops L o with
  |some false=>match o.dst with
   |some d=>bif Nat.blt d n then some d else none
   |none=>none
  |_=>none
 |none=>none
theorem yv{w:Bool}(h:Pc pl ops q L n w=some (o,j,d)):nth pl q=some (o,j)∧Be ops L o=some true∧o.dst=some d∧Nat.blt d n=true∧looks o.op=w:=by
 unfold Pc at h
 split at h
 ·rename_i o' j' h1
  split at h
  ·rename_i h2
   split at h
   ·rename_i d' h3
    cases hb:(Nat.blt d' n&&(looks o'.op==w))with
    |true =>
     rw[hb]at h
     cases h
     rw[Bool.and_eq_true]at hb
     exact⟨h1,h2,h3,hb.1,by simpa using hb.2⟩
    |false=>rw[hb]at h;cases h
   cases h
  cases h
 cases h
theorem pr{v:Value}(h:Pc pl ops q L n false=some (o,j,d))(hr:Rd P n L S o v)(k:RP P K n ops AJ pl (q+1) E ((d,v)::L) S Q):RP P K n ops AJ pl q E L S Q :=
 have⟨a,b,c,e,f⟩:=yv h
 AKS a b c e f hr k
theorem pk{v:Value}(h:Pc pl ops q L n true=some (o,j,d))(hr:Rd P n L S o v)(k:RP P K n ops AJ pl (q+1) (⟨j,o.op,v,L,none⟩::E) ((d,v)::L) S Q):RP P K n ops AJ pl q E L S Q :=
 have⟨a,b,c,e,f⟩:=yv h
 AKQ a b c e f hr k
theorem pm{v:Value}(h:mX pl ops q L n=some (d,v))(k:RP P K n ops AJ pl (q+1) E ((d,v)::L) S Q):RP P K n ops AJ pl q E L S Q:=by
 unfold mX at h
 split at h
 ·rename_i o' j' d' h1
  split at h
  ·rename_i v' h2;cases h;exact pr h1 (y9 h2) k
  cases h
 cases h
theorem pz(h:yw pl ops q L n=some d)(k:RP P K n ops AJ pl (q+1) E ((d,undef)::L) S Q):RP P K n ops AJ pl q E L S Q:=by
 unfold yw at h
 split at h
 ·rename_i o' j' h1
  split at h
  ·rename_i h2
   split at h
   ·rename_i d' h3
    cases hb:Nat.blt d' n with
    |true =>
     rw[hb]at h
     cases h
     exact AKR h1 h2 h3 hb k
    |false=>rw[hb]at h;cases h
   cases h
  cases h
 cases h
end
end
end Go.Cm

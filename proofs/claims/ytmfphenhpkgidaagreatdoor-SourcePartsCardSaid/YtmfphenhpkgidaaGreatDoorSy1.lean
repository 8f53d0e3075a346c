/-
  The evaluator of the model, and that it is sound: part 5.
-/
import Derived.Test.YtmfphenhpkgidaaGreatDoorCm4
namespace Go.Cm
open Go
variable{P:Program}{K:Known}{a b:Fns}
structure FLe(a b:Fns):Prop where
 exec:∀ro c x S r,a.exec ro c x S=some r→b.exec ro c x S=some r
 call:∀t args S r,a.call t args S=some r→b.call t args S=some r
theorem callOp_mono(h:FLe a b){ρ:Operand→Value}{c:Call}{S:St}{r:Ending×St}(e:callOp a ρ c S=some r):callOp b ρ c S=some r:=by
 unfold callOp at e ⊢
 cases hc:c.callee with
 |builtin x=>rw[hc]at e;cases e
 |invoke x n=>rw[hc]at e;exact h.call _ _ _ _ e
 |value f =>
  rw[hc]at e
  simp only at e ⊢
  split at e
  ·exact h.call _ _ _ _ e
  cases e
theorem stepOp_mono(h:FLe a b){ρ:Operand→Value}{op:Op}{S:St}{r:OpR×St}(e:stepOp P a ρ op S=some r):stepOp P b ρ op S=some r:=by
 unfold stepOp at e ⊢
 split
 ·rename_i hk;rw[hk]at e;exact e
 ·rename_i hk;rw[hk]at e;exact e
 rename_i hk
 rw[hk]at e
 simp only at e ⊢
 cases op with
 |call c =>
  obtain⟨callee,as,ts⟩:=c
  cases callee with
  |builtin x=>exact e
  |invoke x n =>
   simp only at e ⊢
   split at e
   ·rename_i hx;rw[callOp_mono h hx];exact e
   ·rename_i hx;rw[callOp_mono h hx];exact e
   cases e
  |value f =>
   simp only at e ⊢
   split at e
   ·rename_i hx;rw[callOp_mono h hx];exact e
   ·rename_i hx;rw[callOp_mono h hx];exact e
   cases e
 |_=>exact e
theorem runOps_mono(h:FLe a b){full:List Oper}:∀(l:List Oper) {x:Ca} {S:St} {r:Exit×Ca×St},runOps P a full l x S=some r→runOps P b full l x S=some r
 | [],x,S,r,e=>e
 |o::l,x,S,r,e=>by
  unfold runOps at e ⊢
  cases hw:wantedC full x o with
  |true =>
   rw[hw]at e
   simp only[cond_true]at e ⊢
   split at e
   ·rename_i v S' hs
    rw[stepOp_mono h hs]
    simp only
    split at e
    ·rename_i x' hp
     exact runOps_mono h l e
    cases e
   ·rename_i ch S' hs
    rw[stepOp_mono h hs]
    exact e
   cases e
  |false =>
   rw[hw]at e
   simp only[cond_false]at e ⊢
   split at e
   ·exact runOps_mono h l e
   cases e
theorem runPlan_mono(h:FLe a b){full:List Oper}{bef:List Nat}:∀(l:List (Oper×Nat)) {chk:List (Nat×Chk)} {x:Ca} {S:St} {r:Exit×Ca×St},runPlan P a full bef l chk x S=some r→runPlan P b full bef l chk x S=some r
 | [],chk,x,S,r,e=>e
 |(o,i)::l,chk,x,S,r,e=>by
  unfold runPlan at e ⊢
  cases hw:wantedC full x o with
  |true =>
   rw[hw]at e
   simp only[cond_true]at e ⊢
   cases hk:kindOf o.op with
   |read =>
    rw[hk]at e
    simp only at e ⊢
    split at e
    ·split at e
     ·exact runPlan_mono h l e
     cases e
    cases e
   |fresh =>
    rw[hk]at e
    simp only at e ⊢
    split at e
    ·split at e
     ·exact runPlan_mono h l e
     cases e
    cases e
   |heavy =>
    rw[hk]at e
    simp only at e ⊢
    split at e
    ·rename_i v S' hs
     rw[stepOp_mono h hs]
     simp only
     split at e
     ·rename_i x' hp
      cases hc:((chk.filter fun x=>!((nth bef i).getD 0).testBit x.1).all fun x=>x.2.ok P S')with
      |true =>
       rw[hc]at e
       exact runPlan_mono h l e
      |false=>rw[hc]at e;cases e
     cases e
    cases e
  |false =>
   rw[hw]at e
   simp only[cond_false]at e ⊢
   split at e
   ·exact runPlan_mono h l e
   cases e
theorem runDraw_mono(h:FLe a b){full:List Oper}{x:Ca}{S:St}{r:Exit×Ca×St}(e:runDraw P a full x S=some r):runDraw P b full x S=some r:=by
 unfold runDraw at e ⊢
 split at e
 ·exact runPlan_mono h _ e
 cases e
theorem execF_mono(h:FLe a b){ro:Option Nat}{code:Code}{x:Ca}{S:St}{r:Exit×Ca×St}(e:execF P a ro code x S=some r):execF P b ro code x S=some r:=by
 cases code with
 |skip=>exact e
 |label _=>exact e
 |exit _=>exact e
 |ret=>exact e
 |goto _=>exact e
 |refuse _=>exact e
 |region i ops d =>
  simp only[execF]at e ⊢
  cases hc:constsOk P ops.toList with
  |false=>rw[hc]at e;cases e
  |true =>
   rw[hc]at e
   simp only[cond_true]at e ⊢
   cases d with
   |true=>exact runDraw_mono h e
   |false=>exact runOps_mono h _ e
 |seq y z =>
  simp only[execF]at e ⊢
  split at e
  ·rename_i hx
   rw[h.exec _ _ _ _ _ hx]
   exact h.exec _ _ _ _ _ e
  rename_i r' hne
  rw[h.exec _ _ _ _ _ e]
  split
  ·rename_i heq
   cases heq
   exact absurd e (by intro h';exact hne _ _ h')
  rfl
 |cond c y z =>
  simp only[execF]at e ⊢
  split at e
  ·exact h.exec _ _ _ _ _ e
  cases e
 |block i c =>
  simp only[execF]at e ⊢
  split at e
  ·rename_i j a' S' hx
   rw[h.exec _ _ _ _ _ hx]
   exact e
  rename_i r' hne
  rw[h.exec _ _ _ _ _ e]
  split
  ·rename_i heq
   cases heq
   exact absurd e (hne _ _ _)
  rfl
 |loop c =>
  simp only[execF]at e ⊢
  split at e
  ·rename_i hx
   rw[h.exec _ _ _ _ _ hx]
   exact h.exec _ _ _ _ _ e
  rename_i r' hne
  rw[h.exec _ _ _ _ _ e]
  split
  ·rename_i heq
   cases heq
   exact absurd e (hne _ _)
  rfl
 |scope c =>
  simp only[execF]at e ⊢
  split at e
  ·cases e
  rename_i r' hne
  rw[h.exec _ _ _ _ _ e]
  split
  ·rename_i heq
   cases heq
   exact absurd e (hne _ _ _)
  rfl
 |rangeFunc f params assign body =>
  simp only[execF]at e ⊢
  split at e
  ·rename_i fn first cap hf
   cases hc:(isConst f||!bodied P fn)with
   |true=>rw[hc]at e;cases e
   |false =>
    rw[hc]at e
    simp only[cond_false]at e ⊢
    split at e
    ·rename_i d mark S1 hs
     skip
     split at e
     ·rename_i v S3 hx
      rw[h.call _ _ _ _ hx]
      exact e
     ·rename_i ch S3 hx
      rw[h.call _ _ _ _ hx]
      exact e
     cases e
    cases e
  cases e
theorem enterB_mono(h:FLe a b){f:FuncId}{args:List Value}{S:St}{r:Ending×St}(e:enterB P K a f args S=some r):enterB P K b f args S=some r:=by
 unfold enterB at e ⊢
 split at e
 ·split at e
  ·rename_i fn _ _ c _
   cases hc:((fn.name== "runtime.NumGoroutine")||Nat.blt 256 (maxN fn.ntmps args.length))with
   |true=>rw[hc]at e;cases e
   |false =>
    rw[hc]at e
    simp only[cond_false]at e ⊢
    split at e
    ·rename_i hx
     rw[h.exec _ _ _ _ _ hx]
     exact e
    cases e
  exact e
 cases e
theorem runOpsD_mono(h:FLe a b){full:List Oper}:∀(l:List Oper) {x:Ca} {S:St} {r:Exit×Ca×St},runOpsD P a full l x S=some r→runOpsD P b full l x S=some r
 | [],x,S,r,e=>e
 |o::l,x,S,r,e=>by
  unfold runOpsD at e ⊢
  cases hw:wantedC full x o with
  |true =>
   rw[hw]at e
   simp only[cond_true]at e ⊢
   split
   ·rename_i c hop
    rw[hop]at e
    simp only at e
    split at e
    ·split at e
     ·exact runOpsD_mono h l e
     cases e
    cases e
   rename_i hne
   split at e
   ·rename_i c hop;exact absurd hop (hne c)
   split at e
   ·rename_i v S' hs
    rw[stepOp_mono h hs]
    simp only
    split at e
    ·rename_i x' hp
     exact runOpsD_mono h l e
    cases e
   ·rename_i ch S' hs
    rw[stepOp_mono h hs]
    exact e
   cases e
  |false =>
   rw[hw]at e
   simp only[cond_false]at e ⊢
   split at e
   ·exact runOpsD_mono h l e
   cases e
theorem execX_mono(h:FLe a b):∀(n:Nat) {code:Code} {x:Ca} {S:St} {r:Exit×Ca×St},execX P a n code x S=some r→execX P b n code x S=some r
 |0,code,x,S,r,e=>by cases e
 |n+1,code,x,S,r,e=>by
  cases code with
  |region i ops d =>
   simp only[execX]at e ⊢
   cases hd:hasDefer ops.toList with
   |true =>
    rw[hd]at e
    simp only[cond_true]at e ⊢
    cases hc:(d||!constsOk P ops.toList)with
    |true=>rw[hc]at e;cases e
    |false =>
     rw[hc]at e
     exact runOpsD_mono h _ e
   |false =>
    rw[hd]at e
    exact h.exec _ _ _ _ _ e
  |seq y z =>
   simp only[execX]at e ⊢
   split at e
   ·rename_i hx
    rw[execX_mono h n hx]
    exact execX_mono h n e
   rename_i r' hne
   rw[execX_mono h n e]
   split
   ·rename_i heq
    cases heq
    exact absurd e (hne _ _)
   rfl
  |cond c y z =>
   simp only[execX]at e ⊢
   split at e
   ·exact execX_mono h n e
   cases e
  |skip=>exact h.exec _ _ _ _ _ e
  |label _=>exact h.exec _ _ _ _ _ e
  |exit _=>exact h.exec _ _ _ _ _ e
  |ret=>exact h.exec _ _ _ _ _ e
  |goto _=>exact h.exec _ _ _ _ _ e
  |refuse _=>exact h.exec _ _ _ _ _ e
  |block _ _=>exact h.exec _ _ _ _ _ e
  |loop _=>exact h.exec _ _ _ _ _ e
  |scope _=>exact h.exec _ _ _ _ _ e
  |rangeFunc _ _ _ _=>exact h.exec _ _ _ _ _ e
theorem execD_mono(h:FLe a b):∀(n:Nat) {code:Code} {x:Ca} {S:St} {m:Mode} {r:Exit×Ca×St×Mode},execD P a n code x S m=some r→execD P b n code x S m=some r
 |0,code,x,S,m,r,e=>by cases e
 |n+1,code,x,S,m,r,e=>by
  have other:∀{code:Code},(match a.exec none code x S with
    |some (.normal,a',S')=>some (Exit.normal,a',S',m)
    |_=>none)=some r→(match b.exec none code x S with
    |some (.normal,a',S')=>some (Exit.normal,a',S',m)
    |_=>none)=some r:=by
   intro code e
   split at e
   ·rename_i hx
    rw[h.exec _ _ _ _ _ hx]
    exact e
   cases e
  cases code with
  |region i ops d =>
   cases d with
   |false=>exact e
   |true=>exact other e
  |seq y z =>
   simp only[execD]at e ⊢
   split at e
   ·rename_i hx
    rw[execD_mono h n hx]
    exact execD_mono h n e
   rename_i r' hne
   rw[execD_mono h n e]
   split
   ·rename_i heq
    cases heq
    exact absurd e (hne _ _ _)
   rfl
  |cond c y z =>
   simp only[execD]at e ⊢
   split at e
   ·exact execD_mono h n e
   cases e
  |skip=>exact e
  |ret=>exact e
  |label _=>exact other e
  |exit _=>exact other e
  |goto _=>exact other e
  |refuse _=>exact other e
  |block _ _=>exact other e
  |loop _=>exact other e
  |scope _=>exact other e
  |rangeFunc _ _ _ _=>exact other e
theorem callD_mono(h:FLe a b){f:FuncId}{args:List Value}{m:Mode}{S:St}{r:Mode×St}(e:callD P a f args m S=some r):callD P b f args m S=some r:=by
 unfold callD at e ⊢
 split at e
 ·split at e
  ·rename_i fn _ _ c _
   cases hc:((fn.name== "runtime.NumGoroutine")||Nat.blt 256 (maxN fn.ntmps args.length))with
   |true=>rw[hc]at e;cases e
   |false =>
    rw[hc]at e
    simp only[cond_false]at e ⊢
    split at e
    ·rename_i hx
     rw[execD_mono h _ hx]
     exact e
    cases e
  cases e
 cases e
theorem leaveD_mono(h:FLe a b):∀(ds:List Deferred) {m:Mode} {S:St} {r:Mode×St},leaveD P a ds m S=some r→leaveD P b ds m S=some r
 | [],m,S,r,e=>e
 |d::ds,m,S,r,e=>by
  simp only[leaveD]at e ⊢
  split at e
  ·split at e
   ·exact leaveD_mono h ds e
   cases e
  ·split at e
   ·rename_i hx
    rw[callD_mono h hx]
    exact leaveD_mono h ds e
   cases e
  cases e
theorem endD_mono(h:FLe a b){x:Ca}{rs:List ResultVar}{ds:List Deferred}{m:Mode}{S:St}{r:Ending×St}(e:endD P x rs (leaveD P a ds m S)=some r):endD P x rs (leaveD P b ds m S)=some r:=by
 cases hl:leaveD P a ds m S with
 |none=>rw[hl]at e;cases e
 |some y=>rw[leaveD_mono h ds hl,←hl];exact e
theorem enterD_mono(h:FLe a b){f:FuncId}{args:List Value}{S:St}{r:Ending×St}(e:enterD P a f args S=some r):enterD P b f args S=some r:=by
 unfold enterD at e ⊢
 split at e
 ·split at e
  ·rename_i fn _ _ c _
   cases hc:((fn.name== "runtime.NumGoroutine")||Nat.blt 256 (maxN fn.ntmps args.length))with
   |true=>rw[hc]at e;cases e
   |false =>
    rw[hc]at e
    simp only[cond_false]at e ⊢
    split at e
    ·rename_i hx
     rw[execX_mono h _ hx]
     simp only
     split at e
     ·exact endD_mono h e
     ·exact endD_mono h e
     ·exact endD_mono h e
     cases e
    cases e
  cases e
 cases e
theorem enterF_mono(h:FLe a b){f:FuncId}{args:List Value}{S:St}{r:Ending×St}(e:enterF P K a f args S=some r):enterF P K b f args S=some r:=by
 unfold enterF at e ⊢
 split at e
 ·exact e
 cases hd:K.defers f with
 |true=>rw[hd]at e;exact enterD_mono h e
 |false=>rw[hd]at e;exact enterB_mono h e
theorem roundF_mono(h:FLe a b){l:Nat}{args:List Value}{S:St}{r:Ending×St}(e:roundF a l args S=some r):roundF b l args S=some r:=by
 unfold roundF at e ⊢
 split at e
 ·rename_i n t ps x y d _
  cases hc:Nat.blt 256 n with
  |true=>rw[hc]at e;cases e
  |false =>
   rw[hc]at e
   simp only[cond_false]at e ⊢
   split at e
   ·split at e
    ·rename_i hx
     rw[h.exec _ _ _ _ _ hx]
     simp only
     split at e
     ·rename_i hl
      split at e
      ·rename_i hy
       rw[h.exec _ _ _ _ _ hy]
       exact e
      cases e
     cases e
    cases e
   cases e
 cases e
theorem callF_mono(h:FLe a b){t:Target}{args:List Value}{S:St}{r:Ending×St}(e:callF P K a t args S=some r):callF P K b t args S=some r:=by
 unfold callF at e ⊢
 split at e
 ·exact enterF_mono h e
 ·exact roundF_mono h e
 ·split at e
  ·split at e
   ·exact enterF_mono h e
   cases e
  cases e
 ·rename_i t path f ptr _
  split at e
  ·cases hp:path.isEmpty with
   |false=>rw[hp]at e;cases e
   |true =>
    rw[hp]at e
    simp only[cond_true]at e ⊢
    split at e
    ·exact enterF_mono h e
    ·split at e
     ·exact enterF_mono h e
     cases e
    ·exact enterF_mono h e
    cases e
  cases e
 cases e
theorem fns_step:∀n,FLe (fns P K n) (fns P K (n+1))
 |0=>⟨fun _ _ _ _ _ h=>(by cases h),fun _ _ _ _ h=>(by cases h)⟩
 |n+1=>⟨fun _ _ _ _ _ h=>execF_mono (fns_step n) h,fun _ _ _ _ h=>callF_mono (fns_step n) h⟩
theorem FLe.refl(a:Fns):FLe a a:=⟨fun _ _ _ _ _ h=>h,fun _ _ _ _ h=>h⟩
theorem FLe.trans{a b c:Fns}(h:FLe a b)(k:FLe b c):FLe a c:=⟨fun _ _ _ _ _ x=>k.exec _ _ _ _ _ (h.exec _ _ _ _ _ x),fun _ _ _ _ x=>k.call _ _ _ _ (h.call _ _ _ _ x)⟩
theorem fns_add(n:Nat):∀k,FLe (fns P K n) (fns P K (n+k))
 |0=>FLe.refl _
 |k+1=>(fns_add n k).trans (fns_step _)
theorem fns_le{n m:Nat}(h:n≤m):FLe (fns P K n) (fns P K m):=by
 obtain⟨k,rfl⟩:=Nat.exists_eq_add_of_le h
 exact fns_add n k
end Go.Cm
namespace Go.Cm
open Go
variable{P:Program}{K:Known}
abbrev Env:=List (Nat×Value)
def look:Env→Nat→Option Value
 | [],_=>none
 |(k,v)::L,i=>bif Nat.beq k i then some v else look L i
def evE(L:Env):Operand→Option Value
 | .tmp t=>look L t
 | .const v=>some v
 | .global g=>some (.pointer (some ⟨g,0,none⟩))
 | .func f=>some (.func (.func f) #[] #[])
def evL(L:Env)(x:Operand):Value:=match evE L x with
 |some v=>v
 |none=>undef
structure Has(n:Nat)(a:Ca)(L:Env):Prop where
 nn:a.n=n
 le:n≤256
 df:a.defers= []
 val:∀k v,look L k=some v→a.get k=v
theorem Has.ev{n:Nat}{a:Ca}{L:Env}(h:Has n a L){x:Operand}{v:Value}(hx:evE L x=some v):a.ev x=v:=by
 cases x with
 |tmp t=>exact h.val _ _ hx
 |const v=>exact Option.some.inj hx
 |global g=>exact Option.some.inj hx
 |func f=>exact Option.some.inj hx
theorem Has.evL{n:Nat}{a:Ca}{L:Env}(h:Has n a L){x:Operand}(hx:(evE L x).isSome=true):a.ev x=evL L x:=by
 cases hv:evE L x with
 |none=>rw[hv]at hx;cases hx
 |some v=>rw[h.ev hv];unfold Cm.evL;rw[hv]
theorem ca_get_set(n:Nat)(t:Tm)(ds:List Deferred)(d k:Nat)(v:Value)(hd:d<256):Ca.get ⟨n,t.set d (some v),ds⟩ k=if k=d then v else Ca.get ⟨n,t,ds⟩ k:=by
 unfold Ca.get
 rw[PT.get_set_if _ _ _ (show d<2 ^ 8 from hd)]
 by_cases h:k=d
 ·rw[if_pos h,if_pos h]
 rw[if_neg h,if_neg h]
theorem look_cons{k i:Nat}{v:Value}{L:Env}:look ((k,v)::L) i=if i=k then some v else look L i:=by
 show(bif Nat.beq k i then some v else look L i)=_
 by_cases h:i=k
 ·subst h;rw[if_pos rfl,nbeq_tt];rfl
 rw[if_neg h,nbeq_ff (fun e=>h e.symm)];rfl
theorem Has.put{n:Nat}{a:Ca}{L:Env}(h:Has n a L){d:Nat}(hd:Nat.blt d n=true)(v:Value):∃a',a.put (some d) v=some a'∧Has n a' ((d,v)::L):=by
 have hd':=nblt_tt hd
 have hle:=h.le
 obtain⟨m,t,ds⟩:=a
 obtain rfl:m=n:=h.nn
 refine⟨⟨m,t.set d (some v),ds⟩,by unfold Ca.put;simp only[hd,cond_true],⟨rfl,h.le,h.df,fun k w hk=>?_⟩⟩
 show Ca.get ⟨m,t.set d (some v),ds⟩ k=w
 rw[ca_get_set _ _ _ _ _ _ (by omega)]
 rw[look_cons]at hk
 by_cases e:k=d
 ·rw[if_pos e]at hk ⊢;exact Option.some.inj hk
 rw[if_neg e]at hk ⊢;exact h.val _ _ hk
def SubE:Env→Env→Prop
 | [],_=>True
 |(k,v)::r,L=>look L k=some v∧SubE r L
theorem SubE.look:∀{L' L:Env},SubE L' L→∀k v,look L' k=some v→look L k=some v
 | [],_,_,k,v,h=>by cases h
 |(j,u)::r,L,hs,k,v,h=>by
  rw[look_cons]at h
  by_cases e:k=j
  ·rw[if_pos e]at h;cases h;rw[e];exact hs.1
  rw[if_neg e]at h;exact SubE.look hs.2 k v h
theorem Has.sub{n:Nat}{a:Ca}{L L':Env}(h:Has n a L)(hs:SubE L' L):Has n a L':=⟨h.nn,h.le,h.df,fun k v hk=>h.val k v (hs.look k v hk)⟩
abbrev Post:=Exit→Env→St→Prop
def XE(P:Program)(K:Known)(n:Nat)(ro:Option Nat)(c:Code)(L:Env)(S:St)(Q:Post):Prop :=
 ∀a,Has n a L→∃m e a' S' L',(fns P K m).exec ro c a S=some (e,a',S')∧Has n a' L'∧Q e L' S'
def RE(P:Program)(K:Known)(n:Nat)(ops:List Oper)(i:Nat)(L:Env)(S:St)(Q:Post):Prop :=
 ∀a,Has n a L→∃m e a' S' L',runOps P (fns P K m) ops (ops.drop i) a S=some (e,a',S')∧Has n a' L'∧Q e L' S'
def CC(P:Program)(K:Known)(f:FuncId)(args:List Value)(S:St)(Q:Value→St→Prop):Prop :=
 ∃m v S',enterF P K (fns P K m) f args S=some (.returned v,S')∧Q v S'
theorem exec_le{m k:Nat}(h:m≤k){ro:Option Nat}{c:Code}{a:Ca}{S:St}{r:Exit×Ca×St}(e:(fns P K m).exec ro c a S=some r):(fns P K k).exec ro c a S=some r:=(fns_le h).exec _ _ _ _ _ e
section
variable{n:Nat}{ro:Option Nat}{L:Env}{S:St}{Q:Post}
theorem xe_sub{c:Code}{L':Env}(hs:SubE L' L)(h:XE P K n ro c L' S Q):XE P K n ro c L S Q:=fun a ha=>h a (ha.sub hs)
theorem xe_mono{c:Code}{Q':Post}(h:XE P K n ro c L S Q')(hq:∀e L' S',Q' e L' S'→Q e L' S'):XE P K n ro c L S Q:=by
 intro a ha
 obtain⟨m,e,a',S',L',h1,h2,h3⟩:=h a ha
 exact⟨m,e,a',S',L',h1,h2,hq _ _ _ h3⟩
theorem xe_skip(h:Q .normal L S):XE P K n ro .skip L S Q:=fun a ha=>⟨1,_,a,S,L,rfl,ha,h⟩
theorem xe_exit{id:Nat}(h:Q (.exit id) L S):XE P K n ro (.exit id) L S Q:=fun a ha=>⟨1,_,a,S,L,rfl,ha,h⟩
theorem xe_ret(h:Q .ret L S):XE P K n ro .ret L S Q:=fun a ha=>⟨1,_,a,S,L,rfl,ha,h⟩
def Thn(P:Program)(K:Known)(n:Nat)(ro:Option Nat)(y:Code)(Q:Post):Post:=fun e L S=>match e with
 | .normal=>XE P K n ro y L S Q
 |e=>Q e L S
theorem xe_seq{x y:Code}(h:XE P K n ro x L S (Thn P K n ro y Q)):XE P K n ro (.seq x y) L S Q:=by
 intro a ha
 obtain⟨m,e,a',S',L',h1,h2,h3⟩:=h a ha
 cases e with
 |normal =>
  obtain⟨m2,e2,a2,S2,L2,k1,k2,k3⟩:=h3 a' h2
  refine⟨max m m2+1,e2,a2,S2,L2,?_,k2,k3⟩
  show execF P (fns P K (max m m2)) ro (.seq x y) a S=_
  simp only[execF]
  rw[exec_le (Nat.le_max_left m m2) h1]
  exact exec_le (Nat.le_max_right m m2) k1
 |_ =>
  refine⟨m+1,_,a',S',L',?_,h2,h3⟩
  show execF P (fns P K m) ro (.seq x y) a S=_
  simp only[execF]
  rw[h1]
theorem xe_cond{c:Operand}{x y:Code}{b:Bool}(hc:evE L c=some (.bool b))(h1:b=true→XE P K n ro x L S Q)(h2:b=false→XE P K n ro y L S Q):XE P K n ro (.cond c x y) L S Q:=by
 intro a ha
 cases b with
 |true =>
  obtain⟨m,e,a',S',L',k1,k2,k3⟩:=h1 rfl a ha
  refine⟨m+1,e,a',S',L',?_,k2,k3⟩
  show execF P (fns P K m) ro (.cond c x y) a S=_
  simp only[execF,ha.ev hc]
  exact k1
 |false =>
  obtain⟨m,e,a',S',L',k1,k2,k3⟩:=h2 rfl a ha
  refine⟨m+1,e,a',S',L',?_,k2,k3⟩
  show execF P (fns P K m) ro (.cond c x y) a S=_
  simp only[execF,ha.ev hc]
  exact k1
def Blk'(id:Nat)(Q:Post):Post:=fun e L S=>match e with
 | .exit j=>bif Nat.beq j id then Q .normal L S else Q (.exit j) L S
 |e=>Q e L S
theorem xe_block{id:Nat}{c:Code}(h:XE P K n ro c L S (Blk' id Q)):XE P K n ro (.block id c) L S Q:=by
 intro a ha
 obtain⟨m,e,a',S',L',h1,h2,h3⟩:=h a ha
 cases e with
 |exit j =>
  have h3':bif Nat.beq j id then Q .normal L' S' else Q (.exit j) L' S':=h3
  by_cases hj:j=id
  ·rw[hj,nbeq_tt]at h3'
   refine⟨m+1,_,a',S',L',?_,h2,h3'⟩
   show execF P (fns P K m) ro (.block id c) a S=_
   simp only[execF]
   rw[h1]
   simp only[hj,nbeq_tt,cond_true]
  rw[nbeq_ff hj]at h3'
  refine⟨m+1,_,a',S',L',?_,h2,h3'⟩
  show execF P (fns P K m) ro (.block id c) a S=_
  simp only[execF]
  rw[h1]
  simp only[nbeq_ff hj,cond_false]
 |_ =>
  refine⟨m+1,_,a',S',L',?_,h2,h3⟩
  show execF P (fns P K m) ro (.block id c) a S=_
  simp only[execF]
  rw[h1]
theorem xe_scope{c:Code}(h:XE P K n ro c L S fun e L' S'=>(∀l,e≠ .goto l)∧Q e L' S'):XE P K n ro (.scope c) L S Q:=by
 intro a ha
 obtain⟨m,e,a',S',L',h1,h2,h3,h4⟩:=h a ha
 refine⟨m+1,e,a',S',L',?_,h2,h4⟩
 show execF P (fns P K m) ro (.scope c) a S=_
 simp only[execF]
 rw[h1]
 cases e with
 |goto l=>exact absurd rfl (h3 l)
 |_=>rfl
def Round(I:Nat→Env→St→Prop)(m:Nat)(Q:Post):Post:=fun e L S=>match e with
 | .normal=>∃k,k<m∧I k L S
 |e=>Q e L S
theorem xe_loop{c:Code}(I:Nat→Env→St→Prop)(h:∀m L S,I m L S→XE P K n ro c L S (Round I m Q)){m:Nat}(h0:I m L S):XE P K n ro (.loop c) L S Q:=by
 have key:∀k m,m≤k→∀L S,I m L S→XE P K n ro (.loop c) L S Q:=by
  intro k
  induction k with
  |zero =>
   intro m hm L S hi a ha
   obtain⟨j,e,a',S',L',h1,h2,h3⟩:=h m L S hi a ha
   cases e with
   |normal=>obtain⟨k,hk,_⟩:=h3;omega
   |_ =>
    refine⟨j+1,_,a',S',L',?_,h2,h3⟩
    show execF P (fns P K j) ro (.loop c) a S=_
    simp only[execF]
    rw[h1]
  |succ k ih =>
   intro m hm L S hi a ha
   obtain⟨j,e,a',S',L',h1,h2,h3⟩:=h m L S hi a ha
   cases e with
   |normal =>
    obtain⟨k',hk,hi'⟩:=h3
    obtain⟨j2,e2,a2,S2,L2,k1,k2,k3⟩:=ih k' (by omega) L' S' hi' a' h2
    refine⟨max j j2+1,e2,a2,S2,L2,?_,k2,k3⟩
    show execF P (fns P K (max j j2)) ro (.loop c) a S=_
    simp only[execF]
    rw[exec_le (Nat.le_max_left j j2) h1]
    exact exec_le (Nat.le_max_right j j2) k1
   |_ =>
    refine⟨j+1,_,a',S',L',?_,h2,h3⟩
    show execF P (fns P K j) ro (.loop c) a S=_
    simp only[execF]
    rw[h1]
 exact key m m (Nat.le_refl _) L S h0
theorem xe_region{id:Nat}{ops:Array Oper}(hc:constsOk P ops.toList=true)(h:RE P K n ops.toList 0 L S Q):XE P K n ro (.region id ops false) L S Q:=by
 intro a ha
 obtain⟨m,e,a',S',L',h1,h2,h3⟩:=h a ha
 refine⟨m+1,e,a',S',L',?_,h2,h3⟩
 show execF P (fns P K m) ro (.region id ops false) a S=_
 simp only[execF,hc,cond_true,cond_false]
 exact h1
theorem re_end{ops:List Oper}{i:Nat}(hi:Nat.ble ops.length i=true)(h:Q .normal L S):RE P K n ops i L S Q:=by
 intro a ha
 refine⟨0,_,a,S,L,?_,ha,h⟩
 rw[List.drop_eq_nil_of_le (Nat.le_of_ble_eq_true hi)]
 rfl
theorem drop_nth{α:Type}:∀(l:List α) (i:Nat) (o:α),nth l i=some o→l.drop i=o::l.drop (i+1)
 | [],i,o,h=>by cases h
 |x::l,0,o,h=>by cases h;rfl
 |x::l,i+1,o,h=>by simpa using drop_nth l i o h
def wantE(ops:List Oper)(L:Env)(o:Oper):Option Bool:=match o.guard with
 |none=>some true
 |some (j,w)=>match nth ops j with
  |some oj=>match oj.dst with
   |some d=>match look L d with
    |some (.bool b)=>some (b==w)
    |some (.tuple _)=>some false
    |_=>none
   |none=>none
  |none=>none
theorem wantE_eq{ops:List Oper}{o:Oper}{a:Ca}(ha:Has n a L){b:Bool}(h:wantE ops L o=some b):wantedC ops a o=b:=by
 unfold wantE at h
 unfold wantedC
 split at h
 ·rename_i hg;rw[hg];exact Option.some.inj h
 rename_i j w hg
 rw[hg]
 simp only
 split at h
 ·rename_i oj hj
  rw[hj]
  simp only
  split at h
  ·rename_i d hd
   rw[hd]
   simp only
   split at h
   ·rename_i x hx
    have hv:=ha.val _ _ hx
    unfold Ca.get at hv
    split at hv
    ·rename_i v hv2
     rw[hv2]
     subst hv
     exact Option.some.inj h
    cases hv
   ·rename_i x hx
    have hv:=ha.val _ _ hx
    unfold Ca.get at hv
    split at hv
    ·rename_i v hv2
     rw[hv2]
     subst hv
     exact Option.some.inj h
    rename_i hv2
    rw[hv2]
    exact Option.some.inj h
   cases h
  cases h
 cases h
theorem re_step{ops:List Oper}{i d:Nat}{o:Oper}{v:Value}{S':St}(ho:nth ops i=some o)(hw:wantE ops L o=some true)(hd:o.dst=some d)(hn:Nat.blt d n=true)
  (hs:∀a,Has n a L→∃m,stepOp P (fns P K m) a.ev o.op S=some (.val v,S'))(h:RE P K n ops (i+1) ((d,v)::L) S' Q):RE P K n ops i L S Q:=by
 intro a ha
 obtain⟨m,hs⟩:=hs a ha
 obtain⟨a1,hp,ha1⟩:=ha.put hn v
 obtain⟨m2,e,a',S2,L',h1,h2,h3⟩:=h a1 ha1
 refine⟨max m m2,e,a',S2,L',?_,h2,h3⟩
 rw[drop_nth _ _ _ ho]
 unfold runOps
 rw[wantE_eq ha hw,stepOp_mono (fns_le (Nat.le_max_left m m2)) hs]
 simp only[cond_true,hd,hp]
 exact runOps_mono (fns_le (Nat.le_max_right m m2)) _ h1
theorem re_step0{ops:List Oper}{i:Nat}{o:Oper}{v:Value}{S':St}(ho:nth ops i=some o)(hw:wantE ops L o=some true)(hd:o.dst=none)
  (hs:∀a,Has n a L→∃m,stepOp P (fns P K m) a.ev o.op S=some (.val v,S'))(h:RE P K n ops (i+1) L S' Q):RE P K n ops i L S Q:=by
 intro a ha
 obtain⟨m,hs⟩:=hs a ha
 obtain⟨m2,e,a',S2,L',h1,h2,h3⟩:=h a ha
 refine⟨max m m2,e,a',S2,L',?_,h2,h3⟩
 rw[drop_nth _ _ _ ho]
 unfold runOps
 rw[wantE_eq ha hw,stepOp_mono (fns_le (Nat.le_max_left m m2)) hs]
 simp only[cond_true,hd,Ca.put]
 exact runOps_mono (fns_le (Nat.le_max_right m m2)) _ h1
theorem re_pass{ops:List Oper}{i d:Nat}{o:Oper}(ho:nth ops i=some o)(hw:wantE ops L o=some false)(hd:o.dst=some d)(hn:Nat.blt d n=true)(h:RE P K n ops (i+1) ((d,undef)::L) S Q):RE P K n ops i L S Q:=by
 intro a ha
 obtain⟨a1,hp,ha1⟩:=ha.put hn undef
 obtain⟨m2,e,a',S2,L',h1,h2,h3⟩:=h a1 ha1
 refine⟨m2,e,a',S2,L',?_,h2,h3⟩
 rw[drop_nth _ _ _ ho]
 unfold runOps
 rw[wantE_eq ha hw]
 simp only[cond_false,hd,hp]
 exact h1
theorem re_bool{ops:List Oper}{i d:Nat}{b:Bool}(hl:look L d=some (.bool b))(h1:b=true→RE P K n ops i ((d,.bool true)::L) S Q)(h2:b=false→RE P K n ops i ((d,.bool false)::L) S Q):RE P K n ops i L S Q:=by
 have sub:SubE ((d,.bool b)::L) L→True:=fun _=>trivial
 cases b with
 |true =>
  intro a ha
  refine h1 rfl a ⟨ha.nn,ha.le,ha.df,fun k v hk=>?_⟩
  rw[look_cons]at hk
  split at hk
  ·rename_i e;cases hk;rw[e];exact ha.val _ _ hl
  exact ha.val _ _ hk
 |false =>
  intro a ha
  refine h2 rfl a ⟨ha.nn,ha.le,ha.df,fun k v hk=>?_⟩
  rw[look_cons]at hk
  split at hk
  ·rename_i e;cases hk;rw[e];exact ha.val _ _ hl
  exact ha.val _ _ hk
theorem re_store{ops:List Oper}{i:Nat}{o:Oper}{t:TypeId}{x y:Operand}{u v:Value}{S':St}(ho:nth ops i=some o)(hop:o.op= .store t x y)(hw:wantE ops L o=some true)(hd:o.dst=none)(hx:evE L x=some u)(hy:evE L y=some v)
  (hv:storeV P t u v S=some S')(h:RE P K n ops (i+1) L S' Q):RE P K n ops i L S Q :=
 re_step0 (v:=undef) ho hw hd (fun a ha=>⟨0,by rw[hop];unfold stepOp;simp only[kindOf,heavyOp];rw[ha.ev hx,ha.ev hy,hv]⟩) h
def evs(L:Env):List Operand→Option (List Value)
 | []=>some []
 |x::r=>match evE L x,evs L r with
  |some v,some l=>some (v::l)
  |_,_=>none
theorem evs_eq{a:Ca}(ha:Has n a L):∀{l:List Operand} {vs:List Value},evs L l=some vs→l.map a.ev=vs
 | [],vs,h=>by cases h;rfl
 |x::r,vs,h=>by
  unfold evs at h
  split at h
  ·rename_i v l h1 h2
   cases h
   rw[List.map_cons,ha.ev h1,evs_eq ha h2]
  cases h
theorem re_builtin{ops:List Oper}{i d:Nat}{o:Oper}{b:Builtin}{as:Array Operand}{ts:Array TypeId}{vs:List Value}{v:Value}{S':St}(ho:nth ops i=some o)(hop:o.op= .call ⟨.builtin b,as,ts⟩)(hw:wantE ops L o=some true)(hd:o.dst=some d)(hn:Nat.blt d n=true)
  (hb:kindOf (.call ⟨.builtin b,as,ts⟩)= .heavy)(hx:evs L as.toList=some vs)(hv:builtinV P b ts.toList vs S=some (v,S'))(h:RE P K n ops (i+1) ((d,v)::L) S' Q):RE P K n ops i L S Q :=
 re_step ho hw hd hn (fun a ha=>⟨0,by rw[hop];unfold stepOp;rw[hb];simp only[evs_eq ha hx,hv]⟩) h
theorem re_conv{ops:List Oper}{i d:Nat}{o:Oper}{s t:TypeId}{x:Operand}{u v:Value}{S':St}(ho:nth ops i=some o)(hop:o.op= .convert s t x)(hw:wantE ops L o=some true)(hd:o.dst=some d)(hn:Nat.blt d n=true)
  (hx:evE L x=some u)(hv:convV P S s t u=some (v,S'))(h:RE P K n ops (i+1) ((d,v)::L) S' Q):RE P K n ops i L S Q :=
 re_step ho hw hd hn (fun a ha=>⟨0,by rw[hop];unfold stepOp;simp only[kindOf,heavyOp,ha.ev hx,hv]⟩) h
theorem re_makeSlice{ops:List Oper}{i d:Nat}{o:Oper}{t:TypeId}{x y:Operand}{u w v:Value}{S':St}(ho:nth ops i=some o)(hop:o.op= .makeSlice t x y)(hw:wantE ops L o=some true)(hd:o.dst=some d)(hn:Nat.blt d n=true)
  (hx:evE L x=some u)(hy:evE L y=some w)(hv:makeSliceV P t u w S=some (v,S'))(h:RE P K n ops (i+1) ((d,v)::L) S' Q):RE P K n ops i L S Q :=
 re_step ho hw hd hn (fun a ha=>⟨0,by rw[hop];unfold stepOp;simp only[kindOf,heavyOp,ha.ev hx,ha.ev hy,hv]⟩) h
theorem re_call{ops:List Oper}{i d:Nat}{o:Oper}{x:Operand}{as:Array Operand}{ts:Array TypeId}{f:FuncId}{fi ca:Array Value}{vs:List Value}(ho:nth ops i=some o)(hop:o.op= .call ⟨.value x,as,ts⟩)(hw:wantE ops L o=some true)
  (hd:o.dst=some d)(hn:Nat.blt d n=true)(hx:evE L x=some (.func (.func f) fi ca))(hv:evs L as.toList=some vs)
  (h:CC P K f ((fi.toList++vs)++ca.toList) S fun v S'=>RE P K n ops (i+1) ((d,v)::L) S' Q):RE P K n ops i L S Q:=by
 obtain⟨m,v,S',h1,h2⟩:=h
 refine re_step ho hw hd hn (fun a ha=>⟨m+1,?_⟩) h2
 rw[hop]
 unfold stepOp
 simp only[kindOf,callOp,ha.ev hx,evs_eq ha hv]
 have:(fns P K (m+1)).call (.fn (.func f) ca) (fi.toList++vs) S=some (.returned v,S'):=h1
 rw[this]
end
def numb:Nat→List Value→Env
 |_,[]=>[]
 |k,v::l=>(k,v)::numb (k+1) l
theorem look_numb:∀(l:List Value) (k i:Nat),look (numb k l) i=if k≤i then l[i-k]? else none
 | [],k,i=>by
  show none=_
  split<;>simp
 |v::l,k,i=>by
  rw[numb,look_cons,look_numb l (k+1) i]
  by_cases h:i=k
  ·subst h;simp
  rw[if_neg h]
  by_cases h2:k≤i
  ·rw[if_pos h2,if_pos (by omega)]
   have:i-k=(i-(k+1))+1:=by omega
   rw[this];simp
  rw[if_neg h2,if_neg (by omega)]
theorem has_start{n:Nat}(hn:n≤256){args:List Value}(hl:args.length≤n):Has n {n:=n,t:=PT.ofList 0 (PT.nil 8) args,defers:=[]} (numb 0 args):=by
 refine⟨rfl,hn,rfl,fun k v hk=>?_⟩
 rw[look_numb]at hk
 simp only[Nat.zero_le,if_true,Nat.sub_zero]at hk
 unfold Ca.get
 rw[PT.get_ofList _ _ _ _ (by show 0+args.length≤256;omega)]
 have hlt:=(List.getElem?_eq_some_iff.1 hk).1
 rw[if_pos ⟨Nat.zero_le _,by omega⟩,Nat.sub_zero,hk]
def ress(P:Program)(L:Env)(S:St):List ResultVar→Option (List Value)
 | []=>some []
 | .tmp x::r=>match look L x,ress P L S r with
  |some v,some l=>some (v::l)
  |_,_=>none
 | .cell x e::r=>match look L x with
  |some p=>match loadV P e p S,ress P L S r with
   |some v,some l=>some (v::l)
   |_,_=>none
  |none=>none
theorem ress_eq{n:Nat}{a:Ca}{L:Env}{S:St}(ha:Has n a L):∀{rs:List ResultVar} {vs:List Value},ress P L S rs=some vs→resultsL P a S rs=some vs
 | [],vs,h=>h
 | .tmp x::r,vs,h=>by
  unfold ress at h
  split at h
  ·rename_i v l h1 h2
   cases h
   unfold resultsL
   rw[ress_eq ha h2,ha.val _ _ h1]
  cases h
 | .cell x e::r,vs,h=>by
  unfold ress at h
  split at h
  ·rename_i p hp
   split at h
   ·rename_i v l h1 h2
    cases h
    unfold resultsL
    rw[ress_eq ha h2,ha.val _ _ hp,h1]
   cases h
  cases h
def tupV:List Value→Value
 | [v]=>v
 |vs=> .tuple vs.toArray
def Done(P:Program)(rs:List ResultVar)(Q:Value→St→Prop):Post:=fun e L S=>match e with
 | .normal=>∃vs,ress P L S rs=some vs∧Q (tupV vs) S
 | .ret=>∃vs,ress P L S rs=some vs∧Q (tupV vs) S
 |_=>False
theorem tup_eq:∀(vs:List Value) (S:St),(match some vs with
  |some [v]=>some (Ending.returned v,S)
  |some vs=>some (Ending.returned (.tuple vs.toArray),S)
  |none=>none)=some (Ending.returned (tupV vs),S)
 | [],_=>rfl
 | [_],_=>rfl
 |_::_::_,_=>rfl
theorem cc_enter{f:FuncId}{fn:Func}{c:Code}{args:List Value}{S:St}{Q:Value→St→Prop}{n:Nat}(hf:P.funcs[f]?=some fn)(hb:fn.body=some c)(hk:K.call f args S=none)(hd:K.defers f=false)(hnm:(fn.name== "runtime.NumGoroutine")=false)
  (hn:maxN fn.ntmps args.length=n)(h256:Nat.ble n 256=true)(h:XE P K n none c (numb 0 args) S (Done P fn.results.toList Q)):CC P K f args S Q:=by
 have h256:=Nat.le_of_ble_eq_true h256
 have hl:args.length≤n:=by
  rw[←hn]
  unfold maxN
  cases hb:Nat.ble fn.ntmps args.length with
  |true=>exact Nat.le_refl _
  |false =>
   have:¬fn.ntmps≤args.length:=fun e=>by rw[Nat.ble_eq_true_of_le e]at hb;cases hb
   simp only[cond_false]
   omega
 obtain⟨m,e,a',S',L',h1,h2,h3⟩:=h _ (has_start h256 hl)
 have hblt:Nat.blt 256 n=false:=by
  rw[PT.blt_iff];exact decide_eq_false (by omega)
 have key:∀e,(e= .normal∨e= .ret)→(fns P K m).exec none c {n:=n,t:=PT.ofList 0 (PT.nil 8) args,defers:=[]} S=some (e,a',S')→∀vs,ress P L' S' fn.results.toList=some vs→enterF P K (fns P K m) f args S=some (.returned (tupV vs),S'):=by
  intro e he hx vs hvs
  unfold enterF
  rw[hk]
  simp only[hd,cond_false]
  unfold enterB
  rw[hf]
  simp only[hb,hnm,Bool.false_or,hn,hblt,cond_false,hx]
  rcases he with rfl|rfl<;>(simp only[h2.df,takeMarks,ress_eq h2 hvs];exact tup_eq vs S')
 cases e with
 |normal=>obtain⟨vs,k1,k2⟩:=h3;exact⟨m,_,S',key _ (.inl rfl) h1 vs k1,k2⟩
 |ret=>obtain⟨vs,k1,k2⟩:=h3;exact⟨m,_,S',key _ (.inr rfl) h1 vs k1,k2⟩
 |_=>exact h3.elim
theorem done_ret{rs:List ResultVar}{Q:Value→St→Prop}{L:Env}{S:St}{vs:List Value}(h:ress P L S rs=some vs)(hq:Q (tupV vs) S):Done P rs Q .ret L S:=⟨vs,h,hq⟩
theorem done_normal{rs:List ResultVar}{Q:Value→St→Prop}{L:Env}{S:St}{vs:List Value}(h:ress P L S rs=some vs)(hq:Q (tupV vs) S):Done P rs Q .normal L S:=⟨vs,h,hq⟩
theorem cc_mono{f:FuncId}{args:List Value}{S:St}{Q Q':Value→St→Prop}(h:CC P K f args S Q')(hq:∀v S',Q' v S'→Q v S'):CC P K f args S Q:=by
 obtain⟨m,v,S',h1,h2⟩:=h
 exact⟨m,v,S',h1,hq _ _ h2⟩
def Fresh(S:St):Prop:= ∀b,S.size≤b→S.get b=none
structure Keep(S S':St):Prop where
 le:S.size≤S'.size
 same:∀b,b<S.size→S'.get b=S.get b
 fr:Fresh S→Fresh S'
theorem Keep.refl(S:St):Keep S S:=⟨Nat.le_refl _,fun _ _=>rfl,id⟩
theorem Keep.trans{A B C:St}(h:Keep A B)(k:Keep B C):Keep A C:=⟨Nat.le_trans h.1 k.1,fun b hb=>(k.2 b (Nat.lt_of_lt_of_le hb h.1)).trans (h.2 b hb),fun f=>k.3 (h.3 f)⟩
theorem Keep.new(S:St)(B:Blk):Keep S (S.new B).2:=by
 refine⟨Nat.le_succ _,fun b hb=>?_,fun f b hb=>?_⟩
 ·show(⟨S.heap.set S.size (some B),S.size+1⟩:St).get b=_
  simp only[St.get,Heap.get_set_any]
  rw[if_neg (Nat.ne_of_lt hb)]
 have hb':S.size+1≤b:=hb
 show(⟨S.heap.set S.size (some B),S.size+1⟩:St).get b=_
 simp only[St.get,Heap.get_set_any]
 rw[if_neg (by omega)]
 exact f b (by omega)
theorem get_new(S:St)(B:Blk):(S.new B).2.get S.size=some B:=by
 show(⟨S.heap.set S.size (some B),S.size+1⟩:St).get S.size=_
 simp only[St.get,Heap.get_set_any,if_true]
theorem size_new(S:St)(B:Blk):(S.new B).2.size=S.size+1:=rfl
theorem Keep.set{S T:St}(h:Keep S T){b:Nat}(hb:S.size≤b)(hT:b<T.size)(B:Blk):Keep S (T.set b B):=by
 refine⟨h.1,fun x hx=>?_,fun f x hx=>?_⟩
 ·rw[get_set',if_neg (by omega)]
  exact h.2 x hx
 have hx':T.size≤x:=hx
 rw[get_set',if_neg (by omega)]
 exact h.3 f x hx'
theorem Keep.kill{S T:St}(h:Keep S T){l:List Nat}(hl:∀b∈l,S.size≤b):Keep S (T.kill l):=by
 refine⟨by rw[kill_size];exact h.1,fun x hx=>?_,fun f x hx=>?_⟩
 ·rw[kill_get,if_neg (fun e=>by have:=hl x e;omega)]
  exact h.2 x hx
 rw[kill_size]at hx
 rw[kill_get]
 split
 ·rfl
 exact h.3 f x hx
end Go.Cm
namespace Go.Cm
open Go
variable{P:Program}{K:Known}
section
variable{n:Nat}{ro:Option Nat}{L:Env}{S:St}{Q:Post}{ops:List Oper}{i d:Nat}{o:Oper}
def Rd(P:Program)(n:Nat)(L:Env)(S:St)(o:Oper)(v:Value):Prop:=kindOf o.op= .read∧∀a,Has n a L→readOp P a.ev o.op S=some v
theorem re_rd{v:Value}(ho:nth ops i=some o)(hw:wantE ops L o=some true)(hd:o.dst=some d)(hn:Nat.blt d n=true)(hr:Rd P n L S o v)(h:RE P K n ops (i+1) ((d,v)::L) S Q):RE P K n ops i L S Q :=
 re_step ho hw hd hn (fun a ha=>⟨0,by unfold stepOp;rw[hr.1];simp only;rw[hr.2 a ha]⟩) h
theorem rd_move{x:Operand}{v:Value}(hop:o.op= .move x)(hx:evE L x=some v)
   :Rd P n L S o (v) :=
 ⟨by rw[hop];rfl,fun a ha=>by rw[hop];show some (a.ev x)=_;rw[ha.ev hx]⟩
theorem rd_assign{x:Operand}{v:Value}(hop:o.op= .assign x)(hx:evE L x=some v)
   :Rd P n L S o (v) :=
 ⟨by rw[hop];rfl,fun a ha=>by rw[hop];show some (a.ev x)=_;rw[ha.ev hx]⟩
theorem rd_pick_t{c x y:Operand}{v:Value}(hop:o.op= .pick c x y)(hc:evE L c=some (.bool true))(hx:evE L x=some v)
   :Rd P n L S o (v) :=
 ⟨by rw[hop];rfl,fun a ha=>by rw[hop];simp only[readOp,pureOp,ha.ev hc,ha.ev hx,if_true]⟩
theorem rd_pick_f{c x y:Operand}{v:Value}(hop:o.op= .pick c x y)(hc:evE L c=some (.bool false))(hy:evE L y=some v)
   :Rd P n L S o (v) :=
 ⟨by rw[hop];rfl,fun a ha=>by rw[hop];simp only[readOp,pureOp,ha.ev hc,ha.ev hy,Bool.false_eq_true,if_false]⟩
theorem rd_bin{op:BinOp}{t t':TypeId}{x y:Operand}{u w v:Value}(hop:o.op= .binOp op t x y t')(hx:evE L x=some u)(hy:evE L y=some w)
  (hv:binV P op t x y u w=some v):Rd P n L S o (v) :=
 ⟨by rw[hop];rfl,fun a ha=>by rw[hop];simp only[readOp,pureOp,ha.ev hx,ha.ev hy,hv]⟩
theorem rd_un{op:UnOp}{t:TypeId}{x:Operand}{u v:Value}(hop:o.op= .unOp op t x)(hx:evE L x=some u)
  (hv:unV op u=some v):Rd P n L S o (v) :=
 ⟨by rw[hop];rfl,fun a ha=>by rw[hop];simp only[readOp,pureOp,ha.ev hx,hv]⟩
theorem rd_load{t:TypeId}{x:Operand}{u v:Value}(hop:o.op= .load t x)(hx:evE L x=some u)
  (hv:loadV P t u S=some v):Rd P n L S o (v) :=
 ⟨by rw[hop];rfl,fun a ha=>by rw[hop];simp only[readOp,ha.ev hx,hv]⟩
theorem rd_fieldAddr{t:TypeId}{x:Operand}{j:Nat}{u v:Value}(hop:o.op= .fieldAddr t x j)(hx:evE L x=some u)
  (hv:fieldAddrV P t u j=some v):Rd P n L S o (v) :=
 ⟨by rw[hop];rfl,fun a ha=>by rw[hop];simp only[readOp,pureOp,ha.ev hx,hv]⟩
theorem rd_indexAddr{t:TypeId}{x y:Operand}{u w v:Value}(hop:o.op= .indexAddr t x y)(hx:evE L x=some u)(hy:evE L y=some w)
  (hv:indexAddrV P t u w=some v):Rd P n L S o (v) :=
 ⟨by rw[hop];rfl,fun a ha=>by rw[hop];simp only[readOp,pureOp,ha.ev hx,ha.ev hy,hv]⟩
theorem rd_index{t:TypeId}{x y:Operand}{u w v:Value}(hop:o.op= .index t x y)(hx:evE L x=some u)(hy:evE L y=some w)
  (hv:indexV P t u w=some v):Rd P n L S o (v) :=
 ⟨by rw[hop];rfl,fun a ha=>by rw[hop];simp only[readOp,pureOp,ha.ev hx,ha.ev hy,hv]⟩
theorem rd_extract{x:Operand}{j:Nat}{vs:Array Value}{v:Value}(hop:o.op= .extract x j)(hx:evE L x=some (.tuple vs))
  (hv:nth vs.toList j=some v):Rd P n L S o (v) :=
 ⟨by rw[hop];rfl,fun a ha=>by rw[hop];simp only[readOp,pureOp,ha.ev hx,hv]⟩
theorem rd_nilCheck{x:Operand}{u v:Value}(hop:o.op= .nilCheck x)(hx:evE L x=some u)
  (hv:nilCheckV u=some v):Rd P n L S o (v) :=
 ⟨by rw[hop];rfl,fun a ha=>by rw[hop];simp only[readOp,pureOp,ha.ev hx,hv]⟩
theorem rd_len{x:Operand}{t:TypeId}{u v:Value}(hop:o.op= .call ⟨.builtin .len, #[x], #[t]⟩)(hx:evE L x=some u)
  (hv:lenV P t u S=some v):Rd P n L S o (v) :=
 ⟨by rw[hop];rfl,fun a ha=>by rw[hop];show lenV P t (a.ev x) S=_;rw[ha.ev hx,hv]⟩
def evo(L:Env):Option Operand→Option (Option Value)
 |none=>some none
 |some x=>match evE L x with
  |some v=>some (some v)
  |none=>none
theorem evo_eq{a:Ca}(ha:Has n a L){x:Option Operand}{v:Option Value}(h:evo L x=some v):x.map a.ev=v:=by
 cases x with
 |none=>cases h;rfl
 |some x =>
  unfold evo at h
  simp only at h
  split at h
  ·rename_i v hv;cases h;simp[ha.ev hv]
  cases h
theorem rd_slice{t:TypeId}{x:Operand}{lo hi mx:Option Operand}{u v:Value}{lv hv' mv:Option Value}(hop:o.op= .slice t x lo hi mx)(hx:evE L x=some u)
  (h1:evo L lo=some lv)(h2:evo L hi=some hv')(h3:evo L mx=some mv)(hv:sliceV P t u lv hv' mv S=some v):Rd P n L S o (v) :=
 ⟨by rw[hop];rfl,fun a ha=>by rw[hop];simp only[readOp,ha.ev hx,evo_eq ha h1,evo_eq ha h2,evo_eq ha h3,hv]⟩
def evp(L:Env):List (Nat×Operand)→Option (List (Nat×Value))
 | []=>some []
 |(k,x)::r=>match evE L x,evp L r with
  |some v,some l=>some ((k,v)::l)
  |_,_=>none
theorem evp_eq{a:Ca}(ha:Has n a L):∀{l:List (Nat×Operand)} {vs:List (Nat×Value)},evp L l=some vs→partsV a.ev l=vs
 | [],vs,h=>by cases h;rfl
 |(k,x)::r,vs,h=>by
  unfold evp at h
  split at h
  ·rename_i v l h1 h2
   cases h
   have:=evp_eq ha h2
   unfold partsV at this ⊢
   rw[List.map_cons,ha.ev h1,this]
  cases h
theorem rd_build{t:TypeId}{ps:Array (Nat×Operand)}{us:List (Nat×Value)}{v:Value}(hop:o.op= .build t ps)(hx:evp L ps.toList=some us)
  (hv:buildV P t us=some v):Rd P n L S o (v) :=
 ⟨by rw[hop];rfl,fun a ha=>by rw[hop];simp only[readOp,pureOp,evp_eq ha hx,hv]⟩
theorem rd_lookup{t:TypeId}{x y:Operand}{ok:Bool}{u w v:Value}(hop:o.op= .lookup t x y ok)(hx:evE L x=some u)(hy:evE L y=some w)
  (hv:lookupV P t u w ok S=some v):Rd P n L S o (v) :=
 ⟨by rw[hop];rfl,fun a ha=>by rw[hop];simp only[readOp,ha.ev hx,ha.ev hy,hv]⟩
theorem re_alloc{e:TypeId}{z:List Value}(ho:nth ops i=some o)(hop:o.op= .alloc e)(hw:wantE ops L o=some true)(hd:o.dst=some d)(hn:Nat.blt d n=true)(hz:zeroOf P e=some z)
  (h:RE P K n ops (i+1) ((d,ptrTo S.size 0)::L) (S.new (.cells z e false true [])).2 Q):RE P K n ops i L S Q :=
 re_step ho hw hd hn (fun a _=>⟨0,by rw[hop];unfold stepOp;simp only[kindOf,newOp,hz];rfl⟩) h
theorem re_box{e:TypeId}{x:Operand}{v:Value}(ho:nth ops i=some o)(hop:o.op= .box e x)(hw:wantE ops L o=some true)(hd:o.dst=some d)(hn:Nat.blt d n=true)(hx:evE L x=some v)
  (h:RE P K n ops (i+1) ((d,ptrTo S.size 0)::L) (S.new (.cells (cellsL v) e false true [])).2 Q):RE P K n ops i L S Q :=
 re_step ho hw hd hn (fun a ha=>⟨0,by rw[hop];unfold stepOp;simp only[kindOf,newOp,ha.ev hx];rfl⟩) h
theorem re_buildSlice{t elem:TypeId}{len:Nat}{ps:Array (Nat×Operand)}{us:List (Nat×Value)}{ei:TypeInfo}{z:Value}{c:List Value}(ho:nth ops i=some o)(hop:o.op= .buildSlice t len ps)(hw:wantE ops L o=some true)(hd:o.dst=some d)(hn:Nat.blt d n=true)
  (hu:P.underlying t=some (.slice elem))(hi:P.info? elem=some ei)(hz:zeroV P elem=some z)(hle:len*ei.size≤1000000)(hzl:(cellsL z).length=ei.size)(hx:evp L ps.toList=some us)
  (hc:fillL (fun i=>some (i*ei.size,ei.size)) (replL len (cellsL z)) us=some c)
  (h:RE P K n ops (i+1) ((d,.slice (some ⟨S.size,0,none⟩) len len)::L) (S.new (.cells c elem true true [])).2 Q):RE P K n ops i L S Q :=
 re_step ho hw hd hn (fun a ha=>⟨0,by rw[hop];unfold stepOp;simp only[kindOf,newOp,hu,hi,hz,evp_eq ha hx];rw[if_pos ⟨hle,hzl⟩];simp only[hc];rfl⟩) h
structure CkE where
 j:Nat
 op:Op
 v:Value
 L:Env
 fr:Option (Nat×List Value×TypeId×Bool)
def CkOne(n:Nat)(c:Chk)(e:CkE):Prop:=match e.fr with
 |none=>∃a,Has n a e.L∧c= .read a e.op e.v
 |some (b,cs,t,r)=>c= .cells b cs t r
def StayOne(P:Program)(n:Nat)(S':St)(e:CkE):Prop:=match e.fr with
 |none=>(∀a,Has n a e.L→readOp P a.ev e.op S'=some e.v)∧sameV 100000 e.v e.v=true
 |some (b,cs,t,r)=>S'.get b=some (.cells cs t r true [])∧sameL 100000 cs cs=true
def CkR(n:Nat):List (Nat×Chk)→List CkE→Prop
 | [],[]=>True
 |x::l,e::r=>(x.1=e.j∧CkOne n x.2 e)∧CkR n l r
 |_,_=>False
def RP(P:Program)(K:Known)(n:Nat)(ops:List Oper)(bef:List Nat)(pl:List (Oper×Nat))(k:Nat)(E:List CkE)(L:Env)(S:St)(Q:Post):Prop :=
 ∀chk,CkR n chk E→∀a,Has n a L→∃m e a' S' L',runPlan P (fns P K m) ops bef (pl.drop k) chk a S=some (e,a',S')∧Has n a' L'∧Q e L' S'
section
variable{bef:List Nat}{pl:List (Oper×Nat)}{k j:Nat}{E:List CkE}
theorem rp_end(hi:Nat.ble pl.length k=true)(h:Q .normal L S):RP P K n ops bef pl k E L S Q:=by
 intro chk _ a ha
 refine⟨0,_,a,S,L,?_,ha,h⟩
 rw[List.drop_eq_nil_of_le (Nat.le_of_ble_eq_true hi)]
 rfl
theorem rp_bool{b:Bool}(hl:look L d=some (.bool b))(h1:b=true→RP P K n ops bef pl k E ((d,.bool true)::L) S Q)(h2:b=false→RP P K n ops bef pl k E ((d,.bool false)::L) S Q):RP P K n ops bef pl k E L S Q:=by
 cases b with
 |true =>
  intro chk hc a ha
  refine h1 rfl chk hc a ⟨ha.nn,ha.le,ha.df,fun k v hk=>?_⟩
  rw[look_cons]at hk
  split at hk
  ·rename_i e;cases hk;rw[e];exact ha.val _ _ hl
  exact ha.val _ _ hk
 |false =>
  intro chk hc a ha
  refine h2 rfl chk hc a ⟨ha.nn,ha.le,ha.df,fun k v hk=>?_⟩
  rw[look_cons]at hk
  split at hk
  ·rename_i e;cases hk;rw[e];exact ha.val _ _ hl
  exact ha.val _ _ hk
theorem rp_pass(ho:nth pl k=some (o,j))(hw:wantE ops L o=some false)(hd:o.dst=some d)(hn:Nat.blt d n=true)(h:RP P K n ops bef pl (k+1) E ((d,undef)::L) S Q):RP P K n ops bef pl k E L S Q:=by
 intro chk hc a ha
 obtain⟨a1,hp,ha1⟩:=ha.put hn undef
 obtain⟨m2,e,a',S2,L',h1,h2,h3⟩:=h chk hc a1 ha1
 refine⟨m2,e,a',S2,L',?_,h2,h3⟩
 rw[drop_nth _ _ _ ho]
 unfold runPlan
 rw[wantE_eq ha hw]
 simp only[cond_false,hd,hp]
 exact h1
theorem rp_rd{v:Value}(ho:nth pl k=some (o,j))(hw:wantE ops L o=some true)(hd:o.dst=some d)(hn:Nat.blt d n=true)(hl:looks o.op=false)(hr:Rd P n L S o v)(h:RP P K n ops bef pl (k+1) E ((d,v)::L) S Q):RP P K n ops bef pl k E L S Q:=by
 intro chk hc a ha
 obtain⟨a1,hp,ha1⟩:=ha.put hn v
 obtain⟨m2,e,a',S2,L',h1,h2,h3⟩:=h chk hc a1 ha1
 refine⟨m2,e,a',S2,L',?_,h2,h3⟩
 rw[drop_nth _ _ _ ho]
 unfold runPlan
 rw[wantE_eq ha hw]
 simp only[cond_true,hr.1,hr.2 a ha,hd,hp,hl,cond_false]
 exact h1
theorem rp_lk{v:Value}(ho:nth pl k=some (o,j))(hw:wantE ops L o=some true)(hd:o.dst=some d)(hn:Nat.blt d n=true)(hl:looks o.op=true)(hr:Rd P n L S o v)(h:RP P K n ops bef pl (k+1) (⟨j,o.op,v,L,none⟩::E) ((d,v)::L) S Q):RP P K n ops bef pl k E L S Q:=by
 intro chk hc a ha
 obtain⟨a1,hp,ha1⟩:=ha.put hn v
 obtain⟨m2,e,a',S2,L',h1,h2,h3⟩:=h ((j,.read a o.op v)::chk) ⟨⟨rfl,a,ha,rfl⟩,hc⟩ a1 ha1
 refine⟨m2,e,a',S2,L',?_,h2,h3⟩
 rw[drop_nth _ _ _ ho]
 unfold runPlan
 rw[wantE_eq ha hw]
 simp only[cond_true,hr.1,hr.2 a ha,hd,hp,hl]
 exact h1
def Stays(P:Program)(n:Nat)(S':St)(m:Nat):List CkE→Prop
 | []=>True
 |e::r=>(m.testBit e.j=false→StayOne P n S' e)∧Stays P n S' m r
def left(m:Nat):List CkE→List CkE
 | []=>[]
 |e::r=>bif m.testBit e.j then left m r else e::left m r
theorem stays_ok{S':St}{m:Nat}:∀{chk:List (Nat×Chk)} {E:List CkE},CkR n chk E→Stays P n S' m E→((chk.filter fun x=>!m.testBit x.1).all fun x=>x.2.ok P S')=true∧CkR n (chk.filter fun x=>!m.testBit x.1) (left m E)
 | [],[],_,_=>⟨rfl,trivial⟩
 |x::l,e::r,⟨⟨h1,h2⟩,h3⟩,⟨k1,k2⟩=>by
  obtain⟨i1,i2⟩:=stays_ok h3 k2
  unfold left
  cases hb:m.testBit e.j with
  |true =>
   have hf:(x::l).filter (fun x=>!m.testBit x.1)=l.filter (fun x=>!m.testBit x.1):=by
    rw[List.filter_cons,h1,hb];rfl
   rw[hf]
   exact⟨i1,i2⟩
  |false =>
   have hf:(x::l).filter (fun x=>!m.testBit x.1)=x::l.filter (fun x=>!m.testBit x.1):=by
    rw[List.filter_cons,h1,hb];rfl
   rw[hf]
   have q:=k1 hb
   refine⟨?_,⟨h1,h2⟩,i2⟩
   rw[List.all_cons,i1,Bool.and_true]
   unfold CkOne at h2
   unfold StayOne at q
   cases hf:e.fr with
   |none =>
    rw[hf]at h2 q
    obtain⟨a,ha,h2⟩:=h2
    obtain⟨q1,q2⟩:=q
    rw[h2]
    simp only[Chk.ok,q1 a ha,q2]
   |some w =>
    obtain⟨b,cs,t,r⟩:=w
    rw[hf]at h2 q
    simp only at h2 q
    rw[h2]
    simp only[Chk.ok,q.1,q.2,nbeq_tt,beq_self_eq_true,Bool.and_self]
 | [],_::_,h,_=>h.elim
 |_::_,[],h,_=>h.elim
theorem rp_call{x:Operand}{as:Array Operand}{ts:Array TypeId}{f:FuncId}{fi ca:Array Value}{vs:List Value}(ho:nth pl k=some (o,j))(hop:o.op= .call ⟨.value x,as,ts⟩)(hw:wantE ops L o=some true)
  (hd:o.dst=some d)(hn:Nat.blt d n=true)(hx:evE L x=some (.func (.func f) fi ca))(hv:evs L as.toList=some vs)
  (h:CC P K f ((fi.toList++vs)++ca.toList) S fun v S'=>Stays P n S' ((nth bef j).getD 0) E∧RP P K n ops bef pl (k+1) (left ((nth bef j).getD 0) E) ((d,v)::L) S' Q):RP P K n ops bef pl k E L S Q:=by
 obtain⟨m,v,S',h1,h2,h3⟩:=h
 intro chk hc a ha
 obtain⟨a1,hp,ha1⟩:=ha.put hn v
 obtain⟨s1,s2⟩:=stays_ok hc h2
 obtain⟨m2,e,a',S2,L',k1,k2,k3⟩:=h3 _ s2 a1 ha1
 refine⟨max (m+1) m2,e,a',S2,L',?_,k2,k3⟩
 rw[drop_nth _ _ _ ho]
 unfold runPlan
 have hkind:kindOf o.op= .heavy:=by rw[hop];rfl
 have hstep:stepOp P (fns P K (m+1)) a.ev o.op S=some (.val v,S'):=by
  rw[hop]
  unfold stepOp
  simp only[kindOf,callOp,ha.ev hx,evs_eq ha hv]
  have:(fns P K (m+1)).call (.fn (.func f) ca) (fi.toList++vs) S=some (.returned v,S'):=h1
  rw[this]
 rw[wantE_eq ha hw,hkind,stepOp_mono (fns_le (Nat.le_max_left (m+1) m2)) hstep]
 simp only[cond_true,hd,hp,s1]
 exact runPlan_mono (fns_le (Nat.le_max_right (m+1) m2)) _ k1
end
section
variable{bef:List Nat}{pl:List (Oper×Nat)}{k j:Nat}{E:List CkE}
theorem rp_alloc{e:TypeId}{z:List Value}(ho:nth pl k=some (o,j))(hop:o.op= .alloc e)(hw:wantE ops L o=some true)(hd:o.dst=some d)(hn:Nat.blt d n=true)(hz:zeroOf P e=some z)(hf:S.get S.size=none)
  (h:RP P K n ops bef pl (k+1) (⟨j,o.op,undef,L,some (S.size,z,e,false)⟩::E) ((d,ptrTo S.size 0)::L) (S.new (.cells z e false true [])).2 Q):RP P K n ops bef pl k E L S Q:=by
 intro chk hc a ha
 obtain⟨a1,hp,ha1⟩:=ha.put hn (ptrTo S.size 0)
 obtain⟨m2,e2,a',S2,L',h1,h2,h3⟩:=h ((j,.cells S.size z e false)::chk) ⟨⟨rfl,rfl⟩,hc⟩ a1 ha1
 refine⟨m2,e2,a',S2,L',?_,h2,h3⟩
 rw[drop_nth _ _ _ ho]
 unfold runPlan
 have hk:kindOf o.op= .fresh:=by rw[hop];rfl
 have hnew:newOp P a.ev o.op S=some (ptrTo S.size 0,(S.new (.cells z e false true [])).2):=by rw[hop];simp only[newOp,hz];rfl
 have hck:chkOf (S.new (.cells z e false true [])).2 S.size=some (.cells S.size z e false):=by unfold chkOf;rw[get_new]
 rw[wantE_eq ha hw,hk,hnew]
 simp only[cond_true,hd,hp,hck,hf]
 exact h1
theorem rp_heavy{v:Value}{S':St}(ho:nth pl k=some (o,j))(hk:kindOf o.op= .heavy)(hw:wantE ops L o=some true)(hd:o.dst=none)
  (hs:∀a,Has n a L→∃m,stepOp P (fns P K m) a.ev o.op S=some (.val v,S'))(hst:Stays P n S' ((nth bef j).getD 0) E)(h:RP P K n ops bef pl (k+1) (left ((nth bef j).getD 0) E) L S' Q):RP P K n ops bef pl k E L S Q:=by
 intro chk hc a ha
 obtain⟨m,hs⟩:=hs a ha
 obtain⟨s1,s2⟩:=stays_ok hc hst
 obtain⟨m2,e,a',S2,L',k1,k2,k3⟩:=h _ s2 a ha
 refine⟨max m m2,e,a',S2,L',?_,k2,k3⟩
 rw[drop_nth _ _ _ ho]
 unfold runPlan
 rw[wantE_eq ha hw,hk,stepOp_mono (fns_le (Nat.le_max_left m m2)) hs]
 simp only[cond_true,hd,Ca.put,s1]
 exact runPlan_mono (fns_le (Nat.le_max_right m m2)) _ k1
theorem rp_heavyD{v:Value}{S':St}(ho:nth pl k=some (o,j))(hk:kindOf o.op= .heavy)(hw:wantE ops L o=some true)(hd:o.dst=some d)(hn:Nat.blt d n=true)
  (hs:∀a,Has n a L→∃m,stepOp P (fns P K m) a.ev o.op S=some (.val v,S'))(hst:Stays P n S' ((nth bef j).getD 0) E)(h:RP P K n ops bef pl (k+1) (left ((nth bef j).getD 0) E) ((d,v)::L) S' Q):RP P K n ops bef pl k E L S Q:=by
 intro chk hc a ha
 obtain⟨m,hs⟩:=hs a ha
 obtain⟨a1,hp,ha1⟩:=ha.put hn v
 obtain⟨s1,s2⟩:=stays_ok hc hst
 obtain⟨m2,e,a',S2,L',k1,k2,k3⟩:=h _ s2 a1 ha1
 refine⟨max m m2,e,a',S2,L',?_,k2,k3⟩
 rw[drop_nth _ _ _ ho]
 unfold runPlan
 rw[wantE_eq ha hw,hk,stepOp_mono (fns_le (Nat.le_max_left m m2)) hs]
 simp only[cond_true,hd,hp,s1]
 exact runPlan_mono (fns_le (Nat.le_max_right m m2)) _ k1
theorem rp_fresh{v:Value}{c:List Value}{e:TypeId}{r:Bool}(ho:nth pl k=some (o,j))(hk:kindOf o.op= .fresh)(hw:wantE ops L o=some true)(hd:o.dst=some d)(hn:Nat.blt d n=true)
  (hnew:∀a,Has n a L→newOp P a.ev o.op S=some (v,(S.new (.cells c e r true [])).2))(hf:S.get S.size=none)
  (h:RP P K n ops bef pl (k+1) (⟨j,o.op,undef,L,some (S.size,c,e,r)⟩::E) ((d,v)::L) (S.new (.cells c e r true [])).2 Q):RP P K n ops bef pl k E L S Q:=by
 intro chk hc a ha
 obtain⟨a1,hp,ha1⟩:=ha.put hn v
 obtain⟨m2,e2,a',S2,L',h1,h2,h3⟩:=h ((j,.cells S.size c e r)::chk) ⟨⟨rfl,rfl⟩,hc⟩ a1 ha1
 refine⟨m2,e2,a',S2,L',?_,h2,h3⟩
 rw[drop_nth _ _ _ ho]
 unfold runPlan
 have hck:chkOf (S.new (.cells c e r true [])).2 S.size=some (.cells S.size c e r):=by unfold chkOf;rw[get_new]
 rw[wantE_eq ha hw,hk,hnew a ha]
 simp only[cond_true,hd,hp,hck,hf]
 exact h1
theorem rp_store{t:TypeId}{x y:Operand}{u v:Value}{S':St}(ho:nth pl k=some (o,j))(hop:o.op= .store t x y)(hw:wantE ops L o=some true)(hd:o.dst=none)(hx:evE L x=some u)(hy:evE L y=some v)
  (hv:storeV P t u v S=some S')(hst:Stays P n S' ((nth bef j).getD 0) E)(h:RP P K n ops bef pl (k+1) (left ((nth bef j).getD 0) E) L S' Q):RP P K n ops bef pl k E L S Q :=
 rp_heavy (v:=undef) ho (by rw[hop];rfl) hw hd (fun a ha=>⟨0,by rw[hop];unfold stepOp;simp only[kindOf,heavyOp];rw[ha.ev hx,ha.ev hy,hv]⟩) hst h
end
def plan(ops:List Oper):List Nat→List (Oper×Nat)
 | []=>[]
 |i::r=>match nth ops i with
  |some o=>(o,i)::plan ops r
  |none=>[]
theorem xe_draw{id:Nat}{ops:Array Oper}{idx:List Nat}(hc:constsOk P ops.toList=true)(hp:planW ops.toList=some (befores ops.toList [],plan ops.toList idx))(h:RP P K n ops.toList (befores ops.toList []) (plan ops.toList idx) 0 [] L S Q) :
  XE P K n ro (.region id ops true) L S Q:=by
 intro a ha
 obtain⟨m,e,a',S',L',h1,h2,h3⟩:=h [] trivial a ha
 refine⟨m+1,e,a',S',L',?_,h2,h3⟩
 show execF P (fns P K m) ro (.region id ops true) a S=_
 simp only[execF,hc,cond_true,runDraw,hp]
 exact h1
end
def pA:Code→Code
 | .seq a _=>a
 | .cond _ a _=>a
 | .block _ c=>c
 | .loop c=>c
 | .scope c=>c
 |c=>c
def pB:Code→Code
 | .seq _ b=>b
 | .cond _ _ b=>b
 |c=>c
def pC:Code→Operand
 | .cond c _ _=>c
 |_=> .const undef
def pI:Code→Nat
 | .block i _=>i
 | .exit i=>i
 |_=>0
def pO:Code→List Oper
 | .region _ ops _=>ops.toList
 |_=>[]
def pK:Code→Nat
 | .skip=>0
 | .region _ _ false=>1
 | .region _ _ true=>2
 | .seq _ _=>3
 | .cond _ _ _=>4
 | .block _ _=>5
 | .loop _=>6
 | .exit _=>7
 | .scope _=>8
 | .ret=>9
 |_=>10
section
variable{n:Nat}{ro:Option Nat}{L:Env}{S:St}{Q:Post}{c:Code}
theorem xp_skip(hk:pK c=0)(h:Q .normal L S):XE P K n ro c L S Q:=by
 cases c<;>first|exact xe_skip h|(rename_i d;cases d<;>cases hk)|cases hk
theorem xp_ret(hk:pK c=9)(h:Q .ret L S):XE P K n ro c L S Q:=by
 cases c<;>first|exact xe_ret h|(rename_i d;cases d<;>cases hk)|cases hk
theorem xp_exit(hk:pK c=7)(h:Q (.exit (pI c)) L S):XE P K n ro c L S Q:=by
 cases c<;>first|exact xe_exit h|(rename_i d;cases d<;>cases hk)|cases hk
theorem xp_seq(hk:pK c=3)(h:XE P K n ro (pA c) L S (Thn P K n ro (pB c) Q)):XE P K n ro c L S Q:=by
 cases c<;>first|exact xe_seq h|(rename_i d;cases d<;>cases hk)|cases hk
theorem xp_cond{b:Bool}(hk:pK c=4)(hc:evE L (pC c)=some (.bool b))(h1:b=true→XE P K n ro (pA c) L S Q)(h2:b=false→XE P K n ro (pB c) L S Q):XE P K n ro c L S Q:=by
 cases c<;>first|exact xe_cond hc h1 h2|(rename_i d;cases d<;>cases hk)|cases hk
theorem xp_cond_t(hk:pK c=4)(hc:evE L (pC c)=some (.bool true))(h:XE P K n ro (pA c) L S Q):XE P K n ro c L S Q:=xp_cond hk hc (fun _=>h) (fun e=>by cases e)
theorem xp_cond_f(hk:pK c=4)(hc:evE L (pC c)=some (.bool false))(h:XE P K n ro (pB c) L S Q):XE P K n ro c L S Q:=xp_cond hk hc (fun e=>by cases e) (fun _=>h)
theorem xp_block(hk:pK c=5)(h:XE P K n ro (pA c) L S (Blk' (pI c) Q)):XE P K n ro c L S Q:=by
 cases c<;>first|exact xe_block h|(rename_i d;cases d<;>cases hk)|cases hk
theorem xp_loop(hk:pK c=6)(I:Nat→Env→St→Prop)(h:∀m L S,I m L S→XE P K n ro (pA c) L S (Round I m Q)){m:Nat}(h0:I m L S):XE P K n ro c L S Q:=by
 cases c<;>first|exact xe_loop I h h0|(rename_i d;cases d<;>cases hk)|cases hk
theorem xp_region(hk:pK c=1)(hc:constsOk P (pO c)=true)(h:RE P K n (pO c) 0 L S Q):XE P K n ro c L S Q:=by
 cases c<;>first|(rename_i d;cases d<;>first|exact xe_region hc h|cases hk)|cases hk
theorem xp_draw{idx:List Nat}(hk:pK c=2)(hc:constsOk P (pO c)=true)(hp:planW (pO c)=some (befores (pO c) [],plan (pO c) idx))(h:RP P K n (pO c) (befores (pO c) []) (plan (pO c) idx) 0 [] L S Q):XE P K n ro c L S Q:=by
 cases c<;>first|(rename_i d;cases d<;>first|exact xe_draw hc hp h|cases hk)|cases hk
end
section
variable{S:St}
theorem fieldAddr_of{t:TypeId}{fs:Array Field}{f:Field}{j b o z:Nat}(hu:P.underlying t=some (.struct fs))(hf:nth fs.toList j=some f)(hz:szOf P f.type=some (z+1)) :
  fieldAddrV P t (.pointer (some ⟨b,o,none⟩)) j=some (ptrTo b (o+f.offset)):=by
 unfold fieldAddrV
 simp only[hu,hf,hz]
theorem load1_of{t:TypeId}{b o:Nat}{c:List Value}{e:TypeId}{row own:Bool}{kin:List Nat}{v:Value}(ha:aggOf P t=some false)(hb:S.get b=some (.cells c e row own kin))(hv:nth c o=some v) :
  loadV P t (.pointer (some ⟨b,o,none⟩)) S=some v:=by
 unfold loadV
 simp only[hb,partL,ha,hv]
theorem loadN_of{t:TypeId}{b o z:Nat}{c l:List Value}{e:TypeId}{row own:Bool}{kin:List Nat}(ha:aggOf P t=some true)(hz:szOf P t=some z)(hb:S.get b=some (.cells c e row own kin))(hv:takeN z (dropN o c)=some l) :
  loadV P t (.pointer (some ⟨b,o,none⟩)) S=some (aggL l):=by
 unfold loadV
 simp only[hb,partL,ha,hz,hv]
theorem indexAddr_slice{t e:TypeId}{b o len cap z:Nat}{k:IntKind}{i:Int}(hu:P.underlying t=some (.slice e))(hz:szOf P e=some z)(hi:0≤i∧i<len) :
  indexAddrV P t (.slice (some ⟨b,o,none⟩) len cap) (.int k i)=some (ptrTo b (o+i.toNat*z)):=by
 unfold indexAddrV
 simp only[hu,hz]
 rw[if_pos hi]
theorem indexAddr_array{t e:TypeId}{b o len z:Nat}{k:IntKind}{i:Int}(hu:P.underlying t=some (.array len e))(hz:szOf P e=some z)(hi:0≤i∧i<len) :
  indexAddrV P t (.pointer (some ⟨b,o,none⟩)) (.int k i)=some (ptrTo b (o+i.toNat*z)):=by
 unfold indexAddrV
 simp only[hu,hz]
 rw[if_pos hi]
theorem index_string{t:TypeId}{s:ByteArray}{k:IntKind}{i:Int}{c:UInt8}(hu:P.underlying t=some .string)(hi:0≤i)(hc:nth s.data.toList i.toNat=some c):indexV P t (.string s) (.int k i)=some (.int .u8 c.toNat):=by
 unfold indexV
 simp only[hu]
 rw[if_pos hi]
 simp only[hc]
theorem index_array1{t e:TypeId}{cs:Array Value}{len z:Nat}{k:IntKind}{i:Int}{v:Value}(hu:P.underlying t=some (.array len e))(hz:szOf P e=some z)(ha:aggOf P e=some false)(hi:0≤i∧i<len)(hv:nth cs.toList (i.toNat*z)=some v) :
  indexV P t (.agg cs) (.int k i)=some v:=by
 unfold indexV
 simp only[hu]
 rw[if_pos hi]
 simp only[hz,partL,ha,hv]
theorem len_slice{t e:TypeId}{a:Option Addr}{n c:Nat}(hu:P.underlying t=some (.slice e)):lenV P t (.slice a n c) S=some (.int .i64 n):=by
 unfold lenV
 simp only[hu]
theorem len_string{t:TypeId}{s:ByteArray}(hu:P.underlying t=some .string):lenV P t (.string s) S=some (.int .i64 s.data.toList.length):=by
 unfold lenV
 simp only[hu]
end
end Go.Cm
namespace Go.Cm
open Go
variable{P:Program}{K:Known}
def RowAt(S:St)(b:Nat)(e:TypeId)(c:List Value):Prop:=b<S.size∧∃own kin,S.get b=some (.cells c e true own kin)
def RK(S S':St):Prop:=S.size≤S'.size∧∀b e c,RowAt S b e c→RowAt S' b e c
theorem RK.refl(S:St):RK S S:=⟨Nat.le_refl _,fun _ _ _ h=>h⟩
theorem RK.trans{A B C:St}(h:RK A B)(k:RK B C):RK A C:=⟨Nat.le_trans h.1 k.1,fun b e c hb=>k.2 b e c (h.2 b e c hb)⟩
theorem Keep.rk{S S':St}(h:Keep S S'):RK S S':=⟨h.1,fun b e c ⟨hb,own,kin,hg⟩=>⟨Nat.lt_of_lt_of_le hb h.1,own,kin,by rw[h.2 b hb];exact hg⟩⟩
def isRow:Blk→Bool
 | .cells _ _ r _ _=>r
 |_=>false
theorem rk_set{S:St}{b:Nat}{x y:Blk}(hx:S.get b=some x)(hr:isRow x=false):RK S (S.set b y):=by
 refine⟨Nat.le_refl _,fun j e c ⟨hj,own,kin,hg⟩=>⟨hj,own,kin,?_⟩⟩
 rw[get_set']
 by_cases h:j=b
 ·subst h
  rw[hx]at hg
  cases hg
  cases hr
 rw[if_neg h];exact hg
theorem rk_flag{S:St}{b:Nat}{c:List Value}{e:TypeId}{o o':Bool}{k k':List Nat}(hx:S.get b=some (.cells c e true o k)):RK S (S.set b (.cells c e true o' k')):=by
 refine⟨Nat.le_refl _,fun j e2 d ⟨hj,own,kin,hg⟩=>?_⟩
 by_cases h:j=b
 ·subst h
  rw[hx]at hg
  cases hg
  exact⟨hj,_,_,by rw[get_set',if_pos rfl]⟩
 exact⟨hj,_,_,by rw[get_set',if_neg h];exact hg⟩
structure Gr where
 v:Value
 e:TypeId
 z:Nat
 c:List Value
 n:Nat
def Grow(S0 S:St)(g:Gr):Prop:=(g.v= .slice none 0 0∧g.c= []∧g.n=0) ∨
 ∃b kin,g.v= .slice (some ⟨b,0,none⟩) g.n g.n∧S0.size≤b∧b<S.size∧S.get b=some (.cells g.c g.e true true kin)∧g.c.length=g.n*g.z
theorem Grow.keep{S0 S S':St}{g:Gr}(h:Grow S0 S g)(hk:Keep S S'):Grow S0 S' g:=by
 rcases h with h|⟨b,kin,h1,h2,h3,h4,h5⟩
 ·exact .inl h
 exact .inr ⟨b,kin,h1,h2,Nat.lt_of_lt_of_le h3 hk.1,(hk.2 b h3).trans h4,h5⟩
theorem Grow.set{S0 S:St}{g:Gr}(h:Grow S0 S g){b:Nat}{x y:Blk}(hx:S.get b=some x)(hr:isRow x=false):Grow S0 (S.set b y) g:=by
 rcases h with h|⟨b2,kin,h1,h2,h3,h4,h5⟩
 ·exact .inl h
 refine .inr ⟨b2,kin,h1,h2,h3,?_,h5⟩
 rw[get_set',if_neg]
 ·exact h4
 rintro rfl
 rw[hx]at h4
 cases h4
 cases hr
theorem Grow.row{S0 S:St}{g:Gr}(h:Grow S0 S g):(g.v= .slice none 0 0∧g.c= []∧g.n=0)∨∃b,g.v= .slice (some ⟨b,0,none⟩) g.n g.n∧RowAt S b g.e g.c:=by
 rcases h with h|⟨b,kin,h1,h2,h3,h4,h5⟩
 ·exact .inl h
 exact .inr ⟨b,h1,h3,_,_,h4⟩
structure HoldG(S0:St)(Ts:List St)(S:St)(l:List (Nat×Blk))(gs:List Gr):Prop where
 keep:Keep S0 S
 nd:(l.map (·.1)).Nodup
 at_:∀b x,(b,x)∈l→S.get b=some x∧S0.size≤b∧b<S.size
 rk:∀T,T∈Ts→RK T S
 gr:∀g,g∈gs→Grow S0 S g
abbrev Hold(S0:St)(Ts:List St)(S:St)(l:List (Nat×Blk)):Prop:=HoldG S0 Ts S l []
theorem nth_mem{α:Type}:∀{l:List α} {k:Nat} {x:α},nth l k=some x→x∈l
 | [],_,_,h=>by cases h
 |y::l,0,x,h=>by cases h;exact List.mem_cons_self ..
 |y::l,k+1,x,h=>List.mem_cons_of_mem _ (nth_mem (l:=l) (k:=k) h)
section
variable{S0 S:St}{Ts:List St}{l:List (Nat×Blk)}{gs:List Gr}
theorem Hold.start(S:St):Hold S [S] S []:=⟨Keep.refl S,List.nodup_nil,fun _ _ h=>(List.not_mem_nil h).elim,fun T h=>by rw[List.mem_singleton.1 h];exact RK.refl _,fun _ h=>(List.not_mem_nil h).elim⟩
theorem HoldG.get(h:HoldG S0 Ts S l gs)(k:Nat){b:Nat}{x:Blk}(hk:nth l k=some (b,x)):S.get b=some x:=(h.at_ b x (nth_mem hk)).1
theorem HoldG.mark(h:HoldG S0 Ts S l gs):HoldG S0 (S::Ts) S l gs:=⟨h.keep,h.nd,h.at_,fun T ht=>by
 rcases List.mem_cons.1 ht with rfl|ht
 ·exact RK.refl _
 exact h.rk T ht,h.gr⟩
theorem HoldG.since(h:HoldG S0 Ts S l gs)(k:Nat){T:St}(hk:nth Ts k=some T):RK T S:=h.rk T (nth_mem hk)
theorem HoldG.marks(h:HoldG S0 Ts S l gs){Us:List St}(hu:∀T,T∈Us→T∈Ts):HoldG S0 Us S l gs:=⟨h.keep,h.nd,h.at_,fun T ht=>h.rk T (hu T ht),h.gr⟩
theorem HoldG.sub(h:HoldG S0 Ts S l gs){l':List (Nat×Blk)}(hs:l'.Sublist l):HoldG S0 Ts S l' gs:=⟨h.keep,(hs.map (·.1)).nodup h.nd,fun b x hx=>h.at_ b x (hs.subset hx),h.rk,h.gr⟩
theorem HoldG.tail(h:HoldG S0 Ts S l gs):HoldG S0 Ts S l.tail gs:=h.sub (List.tail_sublist l)
theorem HoldG.new(h:HoldG S0 Ts S l gs)(x:Blk):HoldG S0 Ts (S.new x).2 ((S.size,x)::l) gs:=by
 refine⟨h.keep.trans (Keep.new S x),?_,fun b y hy=>?_,fun T ht=>(h.rk T ht).trans (Keep.new S x).rk,fun g hg=>(h.gr g hg).keep (Keep.new S x)⟩
 ·rw[List.map_cons,List.nodup_cons]
  refine⟨fun hm=>?_,h.nd⟩
  obtain⟨⟨b,y⟩,hb,e⟩:=List.mem_map.1 hm
  have:=(h.at_ b y hb).2.2
  simp only at e
  omega
 rcases List.mem_cons.1 hy with e|hy
 ·cases e
  exact⟨get_new S x,h.keep.1,by rw[size_new];omega⟩
 obtain⟨h1,h2,h3⟩:=h.at_ b y hy
 exact⟨by rw[(Keep.new S x).2 b h3];exact h1,h2,by rw[size_new];omega⟩
theorem HoldG.call(h:HoldG S0 Ts S l gs){S':St}(hk:Keep S S'):HoldG S0 Ts S' l gs :=
 ⟨h.keep.trans hk,h.nd,fun b x hx=>by
  obtain⟨h1,h2,h3⟩:=h.at_ b x hx
  exact⟨by rw[hk.2 b h3];exact h1,h2,Nat.lt_of_lt_of_le h3 hk.1⟩,fun T ht=>(h.rk T ht).trans hk.rk,fun g hg=>(h.gr g hg).keep hk⟩
theorem HoldG.add(h:HoldG S0 Ts S l gs){S1:St}{b:Nat}{x:Blk}(hl:∀c y,(c,y)∈l→c<S1.size)(h0:Keep S0 S1)(hb:S1.size≤b)(hs:b<S.size)(hg:S.get b=some x):HoldG S0 Ts S ((b,x)::l) gs:=by
 refine⟨h.keep,?_,fun c y hy=>?_,h.rk,h.gr⟩
 ·rw[List.map_cons,List.nodup_cons]
  refine⟨fun hm=>?_,h.nd⟩
  obtain⟨⟨c,y⟩,hc,e⟩:=List.mem_map.1 hm
  have:=hl c y hc
  simp only at e
  omega
 rcases List.mem_cons.1 hy with e|hy
 ·cases e
  exact⟨hg,Nat.le_trans h0.1 hb,hs⟩
 exact h.at_ c y hy
def putB:Nat→Blk→List (Nat×Blk)→List (Nat×Blk)
 |0,y,(b,_)::l=>(b,y)::l
 |k+1,y,p::l=>p::putB k y l
 |_,_,[]=>[]
theorem putB_fst:∀(k:Nat) (y:Blk) (l:List (Nat×Blk)),(putB k y l).map (·.1)=l.map (·.1)
 |0,y,(b,_)::l=>rfl
 |k+1,y,p::l=>by simp only[putB,List.map_cons,putB_fst k y l]
 |0,_,[]=>rfl
 |_+1,_,[]=>rfl
theorem putB_mem:∀{k:Nat} {y:Blk} {l:List (Nat×Blk)} {b:Nat} {x:Blk},nth l k=some (b,x)→(l.map (·.1)).Nodup→∀c z,(c,z)∈putB k y l→(c=b∧z=y)∨(c≠b∧(c,z)∈l)
 |0,y,(b0,x0)::l,b,x,h,hn,c,z,hm=>by
  obtain⟨rfl,rfl⟩:=Prod.mk.inj (Option.some.inj (show some (b0,x0)=some (b,x)from h))
  rw[List.map_cons,List.nodup_cons]at hn
  rcases List.mem_cons.1 (show(c,z)∈(b0,y)::l from hm)with e|h2
  ·cases e;exact .inl ⟨rfl,rfl⟩
  exact .inr ⟨fun e=>hn.1 (List.mem_map.2 ⟨(c,z),h2,e⟩),List.mem_cons_of_mem _ h2⟩
 |k+1,y,p::l,b,x,h,hn,c,z,hm=>by
  rw[List.map_cons,List.nodup_cons]at hn
  rcases List.mem_cons.1 hm with e|hm
  ·refine .inr ⟨fun e2=>hn.1 ?_,e▸List.mem_cons_self ..⟩
   rw[←e,e2]
   exact List.mem_map.2 ⟨_,nth_mem (l:=l) (k:=k) h,rfl⟩
  rcases putB_mem (l:=l) (k:=k) h hn.2 c z hm with h|⟨h1,h2⟩
  ·exact .inl h
  exact .inr ⟨h1,List.mem_cons_of_mem _ h2⟩
 |_,_,[],_,_,h,_,_,_,_=>by cases h
theorem HoldG.put(h:HoldG S0 Ts S l gs){k b:Nat}{x:Blk}(hk:nth l k=some (b,x))(hr:isRow x=false)(y:Blk):HoldG S0 Ts (S.set b y) (putB k y l) gs:=by
 have hm:=h.at_ b x (nth_mem hk)
 refine⟨h.keep.set hm.2.1 hm.2.2 y,by rw[putB_fst];exact h.nd,fun c z hz=>?_,fun T ht=>(h.rk T ht).trans (rk_set hm.1 hr),fun g hg=>(h.gr g hg).set hm.1 hr⟩
 rcases putB_mem hk h.nd c z hz with ⟨rfl,rfl⟩|⟨hne,hz⟩
 ·exact⟨by rw[get_set',if_pos rfl],hm.2.1,hm.2.2⟩
 obtain⟨h1,h2,h3⟩:=h.at_ c z hz
 exact⟨by rw[get_set',if_neg hne];exact h1,h2,h3⟩
end
def storeOk(P:Program)(t:TypeId)(v:Value):Bool:=match szOf P t with
 |some z=>Nat.beq (cellsL v).length z&&(cellsL v).all cellV&&Nat.blt 0 (cellsL v).length
 |none=>false
section
variable{n:Nat}{ro:Option Nat}{L:Env}{S S0:St}{Q:Post}{ops:List Oper}{i d:Nat}{o:Oper}{Ts:List St}{l:List (Nat×Blk)}{gs:List Gr}
theorem re_boxL(hl:HoldG S0 Ts S l gs){e:TypeId}{x:Operand}{v:Value}(ho:nth ops i=some o)(hop:o.op= .box e x)(hw:wantE ops L o=some true)(hd:o.dst=some d)(hn:Nat.blt d n=true)(hx:evE L x=some v)
  (h:∀B S',HoldG S0 Ts S' ((B,.cells (cellsL v) e false true [])::l) gs→RE P K n ops (i+1) ((d,ptrTo B 0)::L) S' Q):RE P K n ops i L S Q :=
 re_box ho hop hw hd hn hx (h _ _ (hl.new _))
theorem re_allocL(hl:HoldG S0 Ts S l gs){e:TypeId}{z:List Value}(ho:nth ops i=some o)(hop:o.op= .alloc e)(hw:wantE ops L o=some true)(hd:o.dst=some d)(hn:Nat.blt d n=true)(hz:zeroOf P e=some z)
  (h:∀B S',HoldG S0 Ts S' ((B,.cells z e false true [])::l) gs→RE P K n ops (i+1) ((d,ptrTo B 0)::L) S' Q):RE P K n ops i L S Q :=
 re_alloc ho hop hw hd hn hz (h _ _ (hl.new _))
theorem store_local{t:TypeId}{b o:Nat}{v:Value}{c c':List Value}{e:TypeId}(hz:storeOk P t v=true)
  (hg:S.get b=some (.cells c e false true []))(hs:setN o (cellsL v) c=some c'):storeV P t (ptrTo b o) v S=some (S.set b (.cells c' e false true [])):=by
 unfold storeOk at hz
 unfold storeV ptrTo
 split at hz
 ·rename_i z h1
  simp only[Bool.and_eq_true]at hz
  obtain⟨⟨h2,h3⟩,h4⟩:=hz
  simp only[h1,h2,cond_true]
  unfold writeCells
  rw[hg]
  simp only[h3,h4,Bool.and_true,cond_true,hs]
  rfl
 cases hz
theorem re_storeL(hl:HoldG S0 Ts S l gs)(k:Nat){t:TypeId}{x y:Operand}{v:Value}{b off:Nat}{c c':List Value}{e:TypeId}(hk:nth l k=some (b,.cells c e false true []))(ho:nth ops i=some o)(hop:o.op= .store t x y)(hw:wantE ops L o=some true)(hd:o.dst=none)(hx:evE L x=some (ptrTo b off))(hy:evE L y=some v)
  (hz:storeOk P t v=true)(hs:setN off (cellsL v) c=some c')
  (h:∀S',HoldG S0 Ts S' (putB k (.cells c' e false true []) l) gs→RE P K n ops (i+1) L S' Q):RE P K n ops i L S Q :=
 re_store ho hop hw hd hx hy (store_local hz (hl.get k hk) hs) (h _ (hl.put hk rfl _))
theorem re_callL(hl:HoldG S0 Ts S l gs){R:Value→St→Prop}{x:Operand}{as:Array Operand}{ts:Array TypeId}{f:FuncId}{fi ca:Array Value}{vs:List Value}(ho:nth ops i=some o)(hop:o.op= .call ⟨.value x,as,ts⟩)(hw:wantE ops L o=some true)
  (hd:o.dst=some d)(hn:Nat.blt d n=true)(hx:evE L x=some (.func (.func f) fi ca))(hv:evs L as.toList=some vs)
  (hc:CC P K f ((fi.toList++vs)++ca.toList) S fun v S'=>Keep S S'∧R v S')
  (h:∀v S',Keep S S'→R v S'→HoldG S0 Ts S' l gs→RE P K n ops (i+1) ((d,v)::L) S' Q):RE P K n ops i L S Q :=
 re_call ho hop hw hd hn hx hv (cc_mono hc fun v S' ⟨h1,h2⟩=>h v S' h1 h2 (hl.call h1))
theorem xe_cut{c:Code}(I:Env→St→Prop)(h:XE P K n ro c L S fun e L' S'=>e= .normal∧I L' S')(hq:∀L' S',I L' S'→Q .normal L' S'):XE P K n ro c L S Q :=
 xe_mono h fun e L' S' ⟨he,hi⟩=>by subst he;exact hq L' S' hi
theorem xe_to{c:Code}(L1:Env)(I:St→Prop)(h:XE P K n ro c L S fun e L' S'=>e= .normal∧SubE L1 L'∧I S')(hq:∀S',I S'→Q .normal L1 S'):XE P K n ro c L S Q:=by
 intro a ha
 obtain⟨m,e,a',S',L',h1,h2,h3,h4,h5⟩:=h a ha
 subst h3
 exact⟨m,_,a',S',L1,h1,h2.sub h4,hq S' h5⟩
theorem xe_toL(_:HoldG S0 Ts S l gs){c:Code}(L1:Env)(h:XE P K n ro c L S fun e L' S'=>e= .normal∧SubE L1 L'∧HoldG S0 Ts S' l gs)(hq:∀S',HoldG S0 Ts S' l gs→Q .normal L1 S'):XE P K n ro c L S Q :=
 xe_to L1 (fun S'=>HoldG S0 Ts S' l gs) h hq
section
variable{bef:List Nat}{pl:List (Oper×Nat)}{k j:Nat}{E:List CkE}
theorem rp_callL(hl:HoldG S0 Ts S l gs){R:Value→St→Prop}{x:Operand}{as:Array Operand}{ts:Array TypeId}{f:FuncId}{fi ca:Array Value}{vs:List Value}(ho:nth pl k=some (o,j))(hop:o.op= .call ⟨.value x,as,ts⟩)(hw:wantE ops L o=some true)
  (hd:o.dst=some d)(hn:Nat.blt d n=true)(hx:evE L x=some (.func (.func f) fi ca))(hv:evs L as.toList=some vs)
  (hc:CC P K f ((fi.toList++vs)++ca.toList) S fun v S'=>Keep S S'∧R v S')
  (h:∀v S',Keep S S'→R v S'→HoldG S0 Ts S' l gs→Stays P n S' ((nth bef j).getD 0) E∧RP P K n ops bef pl (k+1) (left ((nth bef j).getD 0) E) ((d,v)::L) S' Q):RP P K n ops bef pl k E L S Q :=
 rp_call ho hop hw hd hn hx hv (cc_mono hc fun v S' ⟨h1,h2⟩=>h v S' h1 h2 (hl.call h1))
end
end
def hasSz(P:Program)(t:TypeId):Bool:=match szOf P t with
 |some (_+1)=>true
 |_=>false
theorem hasSz_some{t:TypeId}(h:hasSz P t=true):∃z,szOf P t=some (z+1):=by
 unfold hasSz at h
 split at h
 ·exact⟨_,by assumption⟩
 cases h
theorem fieldAddr_at{t:TypeId}{fs:Array Field}{f:Field}{j b o:Nat}(hu:P.underlying t=some (.struct fs))(hf:nth fs.toList j=some f)(hz:hasSz P f.type=true) :
  fieldAddrV P t (ptrTo b o) j=some (ptrTo b (o+f.offset)):=by
 obtain⟨z,hz⟩:=hasSz_some hz
 exact fieldAddr_of hu hf hz
theorem ress_cell{L:Env}{S:St}{x:Tmp}{e:TypeId}{p v:Value}{r:List ResultVar}{l:List Value}(hx:look L x=some p)(hv:loadV P e p S=some v)(h:ress P L S r=some l):ress P L S (.cell x e::r)=some (v::l):=by
 unfold ress
 simp only[hx,hv,h]
theorem ress_tmp{L:Env}{S:St}{x:Tmp}{v:Value}{r:List ResultVar}{l:List Value}(hx:look L x=some v)(h:ress P L S r=some l):ress P L S (.tmp x::r)=some (v::l):=by
 unfold ress
 simp only[hx,h]
theorem bl{a b:Bool}(h:a=b):some (Value.bool a)=some (.bool b):=by rw[h]
theorem thn_ret{n:Nat}{ro:Option Nat}{y:Code}{L:Env}{S:St}{Q:Post}(h:Q .ret L S):Thn P K n ro y Q .ret L S:=h
theorem blk_ret{b:Nat}{L:Env}{S:St}{Q:Post}(h:Q .ret L S):Blk' b Q .ret L S:=h
theorem round_ret{I:Nat→Env→St→Prop}{m:Nat}{L:Env}{S:St}{Q:Post}(h:Q .ret L S):Round I m Q .ret L S:=h
theorem row_move{S S':St}(h:RK S S'){b:Nat}{e:TypeId}{c:List Value}(hr:RowAt S b e c):RowAt S' b e c:=h.2 b e c hr
theorem loadN_row{S:St}{t:TypeId}{b o z:Nat}{e:TypeId}{c l:List Value}(ha:aggOf P t=some true)(hz:szOf P t=some z)(hb:RowAt S b e c)(hv:takeN z (dropN o c)=some l):loadV P t (ptrTo b o) S=some (aggL l):=by
 obtain⟨_,own,kin,hg⟩:=hb
 exact loadN_of ha hz hg hv
theorem load1_row{S:St}{t:TypeId}{b o:Nat}{e:TypeId}{c:List Value}{v:Value}(ha:aggOf P t=some false)(hb:RowAt S b e c)(hv:nth c o=some v):loadV P t (ptrTo b o) S=some v:=by
 obtain⟨_,own,kin,hg⟩:=hb
 exact load1_of ha hg hv
def SliceAt(S:St)(e:TypeId)(z:Nat)(v:Value)(C:List (List Value)):Prop :=
 (C= []∧(v= .slice none 0 0∨∃b o k,v= .slice (some ⟨b,o,some k⟩) 0 0)) ∨
 ∃b o cap cs,v= .slice (some ⟨b,o,none⟩) C.length cap∧C.length≤cap∧RowAt S b e cs∧∀k x,nth C k=some x→takeN z (dropN (o+k*z) cs)=some x
theorem SliceAt.move{S S':St}(h:RK S S'){e:TypeId}{z:Nat}{v:Value}{C:List (List Value)}(hs:SliceAt S e z v C):SliceAt S' e z v C:=by
 rcases hs with hs|⟨b,o,cap,cs,h1,h0,h2,h3⟩
 ·exact .inl hs
 exact .inr ⟨b,o,cap,cs,h1,h0,h.2 _ _ _ h2,h3⟩
theorem SliceAt.is{S:St}{e:TypeId}{z:Nat}{v:Value}{C:List (List Value)}(h:SliceAt S e z v C):∃a cap,v= .slice a C.length cap:=by
 rcases h with ⟨rfl,rfl|⟨b,o,k,rfl⟩⟩|⟨b,o,cap,cs,rfl,_⟩<;>exact⟨_,_,rfl⟩
theorem SliceAt.elem{S:St}{e:TypeId}{z:Nat}{a:Option Addr}{len cap:Nat}{C:List (List Value)}(h:SliceAt S e z (.slice a len cap) C){k:Nat}{x:List Value}(hk:nth C k=some x) :
  ∃b o cs,a=some ⟨b,o,none⟩∧len=C.length∧RowAt S b e cs∧takeN z (dropN (o+k*z) cs)=some x:=by
 rcases h with ⟨rfl,_⟩|⟨b,o,cap,cs,e,_,h2,h3⟩
 ·cases hk
 cases e
 exact⟨b,o,cs,rfl,rfl,h2,h3 k x hk⟩
theorem nth_take{α:Type}:∀{l:List α} {n k:Nat} {x:α},nth (l.take n) k=some x→nth l k=some x
 | [],n,k,x,h=>by simpa using h
 |y::l,0,k,x,h=>by cases h
 |y::l,n+1,0,x,h=>h
 |y::l,n+1,k+1,x,h=>nth_take (l:=l) (n:=n) (k:=k) h
theorem SliceAt.front{S:St}{e:TypeId}{z:Nat}{a:Option Addr}{len cap:Nat}{C:List (List Value)}(h:SliceAt S e z (.slice a len cap) C){t:TypeId}(hu:P.underlying t=some (.slice e))(hz:szOf P e=some z){kk:IntKind}{k:Nat}(hk:k<C.length) :
  ∃v,sliceV P t (.slice a len cap) none (some (.int kk k)) none S=some v∧(∃cap',v= .slice a k cap')∧SliceAt S e z v (C.take k):=by
 rcases h with ⟨rfl,_⟩|⟨b,o,cap,cs,e1,hcap,⟨hb,own,kin,hg⟩,h3⟩
 ·simp at hk
 cases e1
 refine⟨.slice (some ⟨b,o,none⟩) k cap,?_,⟨_,rfl⟩,.inr ⟨b,o,cap,cs,?_,?_,⟨hb,own,kin,hg⟩,fun j x hx=>h3 j x (nth_take hx)⟩⟩
 ·unfold sliceV
  have hb3:bounds3 C.length cap none (some (.int kk k)) none=some (0,k,cap):=by
   unfold bounds3 sliceBnd
   simp only
   rw[if_pos ⟨by omega,by omega⟩]
   rfl
  have hr:rowSize P S b z=true:=by
   unfold rowSize
   rw[hg]
   simp only[hz]
   exact nbeq_tt _
  simp only[hu,hz,hb3,hr,cond_true,Option.isSome_none,Bool.false_and,cond_false,Nat.zero_mul,Nat.add_zero,Nat.sub_zero]
 ·rw[List.length_take,Nat.min_eq_left (by omega)]
 rw[List.length_take,Nat.min_eq_left (by omega)];omega
end Go.Cm
namespace Go.Cm
open Go
variable{P:Program}
theorem eqFields_cons{eq:TypeId→Value→Value→Option Bool}{xs ys:List Value}{f:Field}{fs:List Field}{x y:Value}{b r:Bool}(hn:(f.name== "_")=false)
  (hx:partL P f.type xs f.offset=some x)(hy:partL P f.type ys f.offset=some y)(he:eq f.type x y=some b)(hr:eqFields P eq xs ys fs=some r):eqFields P eq xs ys (f::fs)=some (b&&r):=by
 unfold eqFields
 have hn':¬f.name= "_" :=by simpa using hn
 rw[if_neg hn']
 simp only[hx,hy,he]
 cases b with
 |true=>simpa using hr
 |false=>rfl
theorem part1{t:TypeId}{cs:List Value}{o:Nat}{v:Value}(ha:aggOf P t=some false)(hv:nth cs o=some v):partL P t cs o=some v:=by
 unfold partL
 simp only[ha,hv]
theorem partN{t:TypeId}{cs l:List Value}{o z:Nat}(ha:aggOf P t=some true)(hz:szOf P t=some z)(hv:takeN z (dropN o cs)=some l):partL P t cs o=some (aggL l):=by
 unfold partL
 simp only[ha,hz,hv]
theorem eq_int{d:Nat}{t:TypeId}{k:IntKind}{a b:Int}(hu:P.underlying t=some (.int k)):eqV P (d+1) t (.int k a) (.int k b)=some (a==b):=by
 unfold eqV
 simp only[hu,if_true]
theorem eq_bool{d:Nat}{t:TypeId}{a b:Bool}(hu:P.underlying t=some .bool):eqV P (d+1) t (.bool a) (.bool b)=some (a==b):=by
 unfold eqV
 simp only[hu]
theorem eq_struct{d:Nat}{t:TypeId}{fs:Array Field}{xs ys:List Value}{r:Bool}(hu:P.underlying t=some (.struct fs))(hs:P.stoodInHeld t=false)(h:eqFields P (eqV P d) xs ys fs.toList=some r) :
  eqV P (d+1) t (aggL xs) (aggL ys)=some r:=by
 unfold eqV aggL
 simp only[hu,hs,h]
 rfl
theorem bin_eq{t:TypeId}{xo yo:Operand}{xs ys:List Value}{r:Bool}(hg:P.eqGuardType P.depth t=false)(h:eqV P eqDepth t (aggL xs) (aggL ys)=some r):binV P .eql t xo yo (aggL xs) (aggL ys)=some (.bool r):=by
 unfold binV aggL
 simp only[guardFree,hg]
 have h':eqV P eqDepth t (.agg xs.toArray) (.agg ys.toArray)=some r:=h
 rw[h']
 rfl
theorem bin_ne{t:TypeId}{xo yo:Operand}{xs ys:List Value}{r:Bool}(hg:P.eqGuardType P.depth t=false)(h:eqV P eqDepth t (aggL xs) (aggL ys)=some r):binV P .neq t xo yo (aggL xs) (aggL ys)=some (.bool (!r)):=by
 unfold binV aggL
 simp only[guardFree,hg]
 have h':eqV P eqDepth t (.agg xs.toArray) (.agg ys.toArray)=some r:=h
 rw[h']
 rfl
def Atom(v:Value):Prop:= ∀m,sameV (m+1) v v=true
theorem atom_int(k:IntKind)(a:Int):Atom (.int k a):=fun m=>by unfold sameV;simp
theorem atom_bool(b:Bool):Atom (.bool b):=fun m=>by unfold sameV;simp
theorem sameBytes_refl:∀l:List UInt8,sameBytes l l=true
 | []=>rfl
 |a::l=>by unfold sameBytes;rw[nbeq_tt];exact sameBytes_refl l
theorem atom_string(s:ByteArray):Atom (.string s):=fun m=>by unfold sameV;exact sameBytes_refl _
theorem atom_slice(a:Option Addr)(n c:Nat):Atom (.slice a n c):=fun m=>by unfold sameV;simp
theorem sameL_atoms:∀(l:List Value) (n:Nat),l.length<n→(∀v,v∈l→Atom v)→sameL n l l=true
 | [],n+1,_,_=>by unfold sameL;rfl
 |v::l,n+1,hn,h=>by
  unfold sameL
  simp only[List.length_cons]at hn
  rw[Bool.and_eq_true]
  refine⟨?_,sameL_atoms l n (by omega) fun x hx=>h x (List.mem_cons_of_mem _ hx)⟩
  obtain⟨m,rfl⟩:∃m,n=m+1:=⟨n-1,by omega⟩
  exact h v (List.mem_cons_self ..) m
theorem same_agg{l:List Value}(hn:Nat.blt l.length 90000=true)(h:∀v,v∈l→Atom v):sameV 100000 (aggL l) (aggL l)=true:=by
 have hn:=nblt_tt hn
 show sameV (99999+1) (.agg l.toArray) (.agg l.toArray)=true
 unfold sameV
 exact sameL_atoms l 99999 (by omega) h
theorem atoms_nil:∀v,v∈([]:List Value)→Atom v:=fun _ h=>(List.not_mem_nil h).elim
theorem atoms_cons{x:Value}{l:List Value}(hx:Atom x)(hl:∀v,v∈l→Atom v):∀v,v∈x::l→Atom v:=fun v h=>by
 rcases List.mem_cons.1 h with rfl|h
 ·exact hx
 exact hl v h
theorem same_atom{v:Value}(h:Atom v):sameV 100000 v v=true:=h 99999
theorem stays_no{e:CkE}{m:Nat}(h:m.testBit e.j=true){X:Prop}:m.testBit e.j=false→X:=fun k=>by rw[h]at k;cases k
theorem stays_load{n:Nat}{e:CkE}{S':St}{t:TypeId}{x:Operand}{u:Value}(hop:e.op= .load t x)(hx:evE e.L x=some u)(hv:loadV P t u S'=some e.v)(hs:sameV 100000 e.v e.v=true)(hf:e.fr=none){X:Prop}:X→StayOne P n S' e :=
 fun _=>by
 unfold StayOne
 rw[hf]
 exact⟨fun a ha=>by rw[hop];simp only[readOp,ha.ev hx,hv],hs⟩
theorem stays_new{n:Nat}{e:CkE}{S':St}{b:Nat}{cs:List Value}{t:TypeId}{r:Bool}(hf:e.fr=some (b,cs,t,r))(hg:S'.get b=some (.cells cs t r true []))(hs:sameL 100000 cs cs=true){X:Prop}:X→StayOne P n S' e:=fun _=>by
 unfold StayOne
 rw[hf]
 exact⟨hg,hs⟩
theorem stays_all{n:Nat}{S':St}{m:Nat}:∀{E:List CkE},(E.all fun e=>m.testBit e.j)=true→Stays P n S' m E
 | [],_=>trivial
 |e::r,h=>by
  rw[List.all_cons,Bool.and_eq_true]at h
  exact⟨stays_no h.1,stays_all h.2⟩
def AllE(P:Program)(n:Nat)(S':St):List CkE→Prop
 | []=>True
 |e::r=>StayOne P n S' e∧AllE P n S' r
theorem stays_of{n:Nat}{S':St}{m:Nat}:∀{E:List CkE},AllE P n S' E→Stays P n S' m E
 | [],_=>trivial
 |_::_,h=>⟨fun _=>h.1,stays_of h.2⟩
theorem allE_left{n:Nat}{S':St}{m:Nat}:∀{E:List CkE},AllE P n S' E→AllE P n S' (left m E)
 | [],_=>trivial
 |e::r,h=>by
  unfold left
  cases m.testBit e.j with
  |true=>exact allE_left h.2
  |false=>exact⟨h.1,allE_left h.2⟩
end Go.Cm
namespace Go.Cm
open Go
variable{P:Program}{K:Known}
theorem takeN_all{α:Type}(l:List α):takeN l.length l=some l:=by
 rw[takeN_some _ _ (Nat.le_refl _),List.take_length]
theorem fresh_set{S:St}(f:Fresh S){b:Nat}(hb:b<S.size)(B:Blk):Fresh (S.set b B):=fun x hx=>by
 have hx':S.size≤x:=hx
 rw[get_set',if_neg (by omega)]
 exact f x hx'
def Apd(S0 S S':St)(e:TypeId):Prop:=S.size≤S'.size∧(∀b,b<S.size→S'.get b=S.get b ∨
 ∃c kin,S.get b=some (.cells c e true true kin)∧S0.size≤b∧S'.get b=some (.cells c e true false kin))∧(Fresh S→Fresh S')
theorem append2_grow{S0 S:St}{g:Gr}(h:Grow S0 S g)(h0:S0.size≤S.size){n:Nat}{new:List Value}(hn:0<n)(hlen:new.length=n*g.z)(hc:new.all cellV=true)(hz:growOk P g.e g.z (g.n+n)=true){base:Option Addr}{cap:Nat}(hv:g.v= .slice base g.n cap) :
  ∃v' S',append2 P g.e base g.n cap n g.z new S=some (v',S')∧Grow S0 S' ⟨v',g.e,g.z,g.c++new,g.n+n⟩∧Apd S0 S S' g.e:=by
 rcases h with ⟨h1,h2,h3⟩|⟨b,kin,h1,h2,h3,h4,h5⟩
 ·rw[h1]at hv
  injection hv with e1 _ e3
  subst e1;subst e3
  refine⟨.slice (some ⟨S.size,0,none⟩) n n,(S.new (.cells new g.e true true [])).2,?_,?_,Nat.le_succ _,fun b hb=> .inl ((Keep.new S _).2 b hb),(Keep.new S _).3⟩
  ·unfold append2 append2.cellsAll
   have:Nat.ble (g.n+n) 0=false:=by
    rw[h3]
    cases hb:Nat.ble (0+n) 0 with
    |false=>rfl
    |true=>have:=Nat.le_of_ble_eq_true hb;omega
   rw[this,hz,hc]
   simp only[cond_false,Bool.and_self,cond_true]
   unfold appendOut
   rw[h3,nbeq_tt]
   rfl
  refine .inr ⟨S.size,[],?_,h0,Nat.lt_succ_self _,?_,?_⟩
  ·simp only[h3,Nat.zero_add]
  ·simp only[h2,List.nil_append];exact get_new _ _
  simp only[h2,List.nil_append,h3,Nat.zero_add];exact hlen
 rw[h1]at hv
 cases hv
 refine⟨.slice (some ⟨S.size,0,none⟩) (g.n+n) (g.n+n),((S.set b (.cells g.c g.e true false kin)).new (.cells (g.c++new) g.e true true (b::kin))).2,?_,?_,Nat.le_succ _,fun j hj=>?_,fun f=>(Keep.new _ _).3 (fresh_set f h3 _)⟩
 ·unfold append2 append2.cellsAll
  have:Nat.ble (g.n+n) g.n=false:=by
   cases hb:Nat.ble (g.n+n) g.n with
   |false=>rfl
   |true=>have:=Nat.le_of_ble_eq_true hb;omega
  rw[this,hz,hc]
  simp only[cond_false,Bool.and_self,cond_true]
  unfold appendOut
  have ht:takeN (g.n*g.z) (dropN 0 g.c)=some g.c:=by
   show takeN (g.n*g.z) g.c=_
   rw[←h5];exact takeN_all _
  simp only[h4,ht,Nat.zero_add,h5,nbeq_tt,Bool.and_self,cond_true]
  rfl
 ·refine .inr ⟨S.size,b::kin,rfl,h0,Nat.lt_succ_self _,get_new (S.set b (.cells g.c g.e true false kin)) _,?_⟩
  simp only[List.length_append,h5,hlen,Nat.add_mul]
 rw[(Keep.new (S.set b (.cells g.c g.e true false kin)) _).2 j hj,get_set']
 by_cases e:j=b
 ·subst e
  exact .inr ⟨g.c,kin,h4,h2,by rw[if_pos rfl]⟩
 exact .inl (by rw[if_neg e])
theorem Apd.rk{S0 S S':St}{e:TypeId}(h:Apd S0 S S' e):RK S S':=by
 refine⟨h.1,fun b e2 c ⟨hb,own,kin,hg⟩=>⟨Nat.lt_of_lt_of_le hb h.1,?_⟩⟩
 rcases h.2.1 b hb with e1|⟨c2,kin2,k1,_,k2⟩
 ·exact⟨own,kin,e1.trans hg⟩
 rw[hg]at k1
 cases k1
 exact⟨_,_,k2⟩
def setG:Nat→Gr→List Gr→List Gr
 |_,_,[]=>[]
 |0,g,_::l=>g::l
 |k+1,g,x::l=>x::setG k g l
theorem setG_mem:∀{k:Nat} {g h x:Gr} {l:List Gr},nth l k=some g→x∈setG k h l→(l.map (·.e)).Nodup→x=h∨(x∈l∧x.e≠g.e)
 |0,g,h,x,y::l,hk,hx,hn=>by
  obtain rfl:y=g:=Option.some.inj hk
  rw[List.map_cons,List.nodup_cons]at hn
  rcases List.mem_cons.1 (show x∈h::l from hx)with e|hx
  ·exact .inl e
  exact .inr ⟨List.mem_cons_of_mem _ hx,fun e=>hn.1 (e▸List.mem_map.2 ⟨x,hx,rfl⟩)⟩
 |k+1,g,h,x,y::l,hk,hx,hn=>by
  rw[List.map_cons,List.nodup_cons]at hn
  rcases List.mem_cons.1 (show x∈y::setG k h l from hx)with e|hx
  ·refine .inr ⟨e▸List.mem_cons_self ..,fun e2=>hn.1 ?_⟩
   rw[←e,e2]
   exact List.mem_map.2 ⟨g,nth_mem (l:=l) (k:=k) hk,rfl⟩
  rcases setG_mem (l:=l) (k:=k) hk hx hn.2 with e|⟨h1,h2⟩
  ·exact .inl e
  exact .inr ⟨List.mem_cons_of_mem _ h1,h2⟩
 |_,_,_,_,[],hk,_,_=>by cases hk
theorem HoldG.apd{S0 S S':St}{Ts:List St}{l:List (Nat×Blk)}{gs:List Gr}(hl:HoldG S0 Ts S l gs){k:Nat}{g g':Gr}(hk:nth gs k=some g)(hr:(l.all fun p=>!isRow p.2)=true)(hd:(gs.map (·.e)).Nodup)
  (ha:Apd S0 S S' g.e)(hg:Grow S0 S' g'):HoldG S0 Ts S' l (setG k g' gs):=by
 refine⟨⟨Nat.le_trans hl.keep.1 ha.1,fun b hb=>?_,fun f=>ha.2.2 (hl.keep.3 f)⟩,hl.nd,fun b x hx=>?_,fun T ht=>(hl.rk T ht).trans ha.rk,fun x hx=>?_⟩
 ·have hb':=Nat.lt_of_lt_of_le hb hl.keep.1
  rcases ha.2.1 b hb' with e|⟨_,_,_,h2,_⟩
  ·exact e.trans (hl.keep.2 b hb)
  omega
 ·obtain⟨h1,h2,h3⟩:=hl.at_ b x hx
  refine⟨?_,h2,Nat.lt_of_lt_of_le h3 ha.1⟩
  rcases ha.2.1 b h3 with e|⟨c,kin,k1,_,_⟩
  ·exact e.trans h1
  rw[h1]at k1
  cases k1
  have:=List.all_eq_true.1 hr _ hx
  cases this
 rcases setG_mem hk hx hd with rfl|⟨h1,h2⟩
 ·exact hg
 rcases hl.gr x h1 with h|⟨b,kin,k1,k2,k3,k4,k5⟩
 ·exact .inl h
 refine .inr ⟨b,kin,k1,k2,Nat.lt_of_lt_of_le k3 ha.1,?_,k5⟩
 rcases ha.2.1 b k3 with e|⟨c,kin2,j1,_,_⟩
 ·exact e.trans k4
 rw[k4]at j1
 injection j1 with j1
 injection j1 with _ a2
 exact absurd a2 h2
def growB(P:Program)(e:TypeId)(z:Nat):Bool:=match P.info? e,zeroV P e with
 |some ei,some zv=>Nat.ble ei.bytes 1024&&Nat.blt 0 ei.bytes&&Nat.beq (cellsL zv).length z&&Nat.blt 0 z
 |_,_=>false
theorem growOk_of{e:TypeId}{z need:Nat}(h:growB P e z=true)(hn:need≤maxNeed):growOk P e z need=true:=by
 unfold growB at h
 unfold growOk
 split at h
 ·rename_i ei zv h1 h2
  rw[h1,h2]
  simp only[Bool.and_eq_true]at h ⊢
  exact⟨⟨⟨⟨h.1.1.1,h.1.1.2⟩,Nat.ble_eq_true_of_le hn⟩,h.1.2⟩,h.2⟩
 cases h
section
variable{n:Nat}{ro:Option Nat}{L:Env}{S S0:St}{Q:Post}{ops:List Oper}{i d:Nat}{o:Oper}{Ts:List St}{l:List (Nat×Blk)}{gs:List Gr}
theorem Grow.base{S0 S1 S:St}{g:Gr}(h:Grow S1 S g)(h0:S0.size≤S1.size):Grow S0 S g:=by
 rcases h with h|⟨b,kin,h1,h2,h⟩
 ·exact .inl h
 exact .inr ⟨b,kin,h1,Nat.le_trans h0 h2,h⟩
theorem HoldG.addG(hl:HoldG S0 Ts S l gs){g:Gr}(hg:Grow S0 S g):HoldG S0 Ts S l (g::gs):=⟨hl.keep,hl.nd,hl.at_,hl.rk,fun x hx=>by
 rcases List.mem_cons.1 hx with rfl|hx
 ·exact hg
 exact hl.gr x hx⟩
def bsF(P:Program)(elem:TypeId)(len:Nat)(us:List (Nat×Value)):Option (List Value):=match P.info? elem with
 |some ei=>match zeroV P elem with
  |some z=>if len*ei.size≤1000000∧(cellsL z).length=ei.size then fillL (fun i=>some (i*ei.size,ei.size)) (replL len (cellsL z)) us else none
  |none=>none
 |none=>none
theorem re_bsF{t elem:TypeId}{len:Nat}{ps:Array (Nat×Operand)}{us:List (Nat×Value)}{c:List Value}(ho:nth ops i=some o)(hop:o.op= .buildSlice t len ps)(hw:wantE ops L o=some true)(hd:o.dst=some d)(hn:Nat.blt d n=true)
  (hu:P.underlying t=some (.slice elem))(hx:evp L ps.toList=some us)(hc:bsF P elem len us=some c)
  (h:RE P K n ops (i+1) ((d,.slice (some ⟨S.size,0,none⟩) len len)::L) (S.new (.cells c elem true true [])).2 Q):RE P K n ops i L S Q:=by
 unfold bsF at hc
 split at hc
 ·rename_i ei hi
  split at hc
  ·rename_i z hz
   split at hc
   ·rename_i hle
    exact re_buildSlice ho hop hw hd hn hu hi hz hle.1 hle.2 hx hc h
   cases hc
  cases hc
 cases hc
theorem re_buildSliceG(hl:HoldG S0 Ts S l gs){t elem:TypeId}{len:Nat}{ps:Array (Nat×Operand)}{us:List (Nat×Value)}{c:List Value}(zz:Nat)(ho:nth ops i=some o)(hop:o.op= .buildSlice t len ps)(hw:wantE ops L o=some true)(hd:o.dst=some d)(hn:Nat.blt d n=true)
  (hu:P.underlying t=some (.slice elem))(hx:evp L ps.toList=some us)(hc:bsF P elem len us=some c)(hcl:c.length=len*zz)
  (h:∀v S',HoldG S0 Ts S' l (⟨v,elem,zz,c,len⟩::gs)→RE P K n ops (i+1) ((d,v)::L) S' Q):RE P K n ops i L S Q :=
 re_bsF ho hop hw hd hn hu hx hc (h _ _ (HoldG.addG (hl.call (Keep.new S _)) (.inr ⟨S.size,[],rfl,hl.keep.1,Nat.lt_succ_self _,get_new _ _,hcl⟩)))
theorem re_buildSliceR(hl:HoldG S0 Ts S l gs){t elem:TypeId}{len:Nat}{ps:Array (Nat×Operand)}{us:List (Nat×Value)}{c:List Value}(ho:nth ops i=some o)(hop:o.op= .buildSlice t len ps)(hw:wantE ops L o=some true)(hd:o.dst=some d)(hn:Nat.blt d n=true)
  (hu:P.underlying t=some (.slice elem))(hx:evp L ps.toList=some us)(hc:bsF P elem len us=some c)
  (h:∀B S',RowAt S' B elem c→HoldG S0 Ts S' l gs→RE P K n ops (i+1) ((d,.slice (some ⟨B,0,none⟩) len len)::L) S' Q):RE P K n ops i L S Q :=
 re_bsF ho hop hw hd hn hu hx hc (h _ _ ⟨Nat.lt_succ_self _,_,_,get_new _ _⟩ (hl.call (Keep.new S _)))
theorem append_step(hl:HoldG S0 Ts S l gs){k:Nat}{g:Gr}(hk:nth gs k=some g)(hr:(l.all fun p=>!isRow p.2)=true)(hd:(gs.map (·.e)).Nodup){ts:Array TypeId}{sT xT:TypeId}{xd:TypeDesc}{x:Value}{m:Nat}{new:List Value}
  (hts:ts.toList= [sT,xT])
  (hu:P.underlying sT=some (.slice g.e))(hux:P.underlying xT=some xd)(hi:isIntT xd=false)(hlen:lenOfV x=some m)(hz:szOf P g.e=some g.z)(hs:sourceCells S g.z m x=some new)
  (hnl:new.length=m*g.z)(hc:new.all cellV=true)(hgb:growB P g.e g.z=true)(hneed:g.n+m≤maxNeed) :
  ∃v S',builtinV P .append ts.toList [g.v,x] S=some (v,S')∧HoldG S0 Ts S' l (setG k ⟨v,g.e,g.z,g.c++new,g.n+m⟩ gs):=by
 have hgr:=hl.gr g (nth_mem hk)
 obtain⟨base,cap,hv⟩:∃base cap,g.v= .slice base g.n cap:=by
  rcases hgr with ⟨h1,_,h3⟩|⟨b,kin,h1,_⟩
  ·exact⟨none,0,by rw[h1,h3]⟩
  exact⟨_,_,h1⟩
 rcases Nat.eq_zero_or_pos m with hm0|hm
 ·subst hm0
  have hnew:new= []:=List.length_eq_zero_iff.1 (by rw[hnl,Nat.zero_mul])
  subst hnew
  have hgg:(⟨g.v,g.e,g.z,g.c++[],g.n+0⟩:Gr)=g:=by rw[List.append_nil,Nat.add_zero]
  have hset:∀{k:Nat} {l:List Gr},nth l k=some g→setG k g l=l:=by
   intro k l
   induction l generalizing k with
   |nil=>intro _;cases k<;>rfl
   |cons x l ih =>
    intro hk
    cases k with
    |zero=>obtain rfl:x=g:=Option.some.inj hk;rfl
    |succ k=>exact congrArg (x:: ·) (ih hk)
  refine⟨g.v,S,?_,by rw[hgg,hset hk];exact hl⟩
  unfold builtinV
  simp only
  have:appendV P ts.toList g.v x S=some (g.v,S):=by
   unfold appendV
   rw[hts]
   have hcap:cap=g.n:=by
    rcases hgr with ⟨h1,_,h3⟩|⟨b,kin,h1,_⟩
    ·rw[h1]at hv;injection hv with _ _ e3;rw[←e3,h3]
    rw[h1]at hv;injection hv with _ _ e3;exact e3.symm
   simp only[hu,hux,hlen,hv,hi,hz,hs,cond_false]
   unfold append2
   have hb:Nat.ble (g.n+0) cap=true:=by rw[hcap];exact Nat.ble_eq_true_of_le (Nat.le_refl _)
   rw[hb]
   simp only[cond_true]
   unfold appendIn
   rcases hgr with ⟨h1,_,h3⟩|⟨b,kin,h1,_⟩
   ·rw[h1]at hv;injection hv with e1 _ _;subst e1;rfl
   rw[h1]at hv;injection hv with e1 _ _;subst e1;rfl
  rw[this]
 obtain⟨v',S',h1,h2,h3⟩:=append2_grow (P:=P) hgr hl.keep.1 hm hnl hc (growOk_of hgb hneed) hv
 refine⟨v',S',?_,hl.apd hk hr hd h3 h2⟩
 unfold builtinV
 simp only
 have:appendV P ts.toList g.v x S=some (v',S'):=by
  unfold appendV
  rw[hts]
  simp only[hu,hux,hlen,hv,hi,hz,hs,cond_false]
  exact h1
 rw[this]
theorem re_appendG(hl:HoldG S0 Ts S l gs)(k:Nat){g:Gr}(hk:nth gs k=some g)(hr:(l.all fun p=>!isRow p.2)=true)(hd:(gs.map (·.e)).Nodup){as:Array Operand}{ts:Array TypeId}{sT xT:TypeId}{xd:TypeDesc}{x:Value}{m:Nat}{new:List Value}
  (ho:nth ops i=some o)(hop:o.op= .call ⟨.builtin .append,as,ts⟩)(hw:wantE ops L o=some true)(hdst:o.dst=some d)(hlt:Nat.blt d n=true)(hx:evs L as.toList=some [g.v,x])(hts:ts.toList= [sT,xT])
  (hu:P.underlying sT=some (.slice g.e))(hux:P.underlying xT=some xd)(hi:isIntT xd=false)(hlen:lenOfV x=some m)(hz:szOf P g.e=some g.z)(hs:sourceCells S g.z m x=some new)
  (hnl:new.length=m*g.z)(hc:new.all cellV=true)(hgb:growB P g.e g.z=true)(hneed:g.n+m≤maxNeed)
  (h:∀v S',HoldG S0 Ts S' l (setG k ⟨v,g.e,g.z,g.c++new,g.n+m⟩ gs)→RE P K n ops (i+1) ((d,v)::L) S' Q):RE P K n ops i L S Q:=by
 obtain⟨v,S',h1,h2⟩:=append_step hl hk hr hd hts hu hux hi hlen hz hs hnl hc hgb hneed
 exact re_builtin ho hop hw hdst hlt rfl hx h1 (h v S' h2)
section
variable{bef:List Nat}{pl:List (Oper×Nat)}{q j:Nat}{E:List CkE}
theorem rp_allocL(hF:Fresh S0)(hl:HoldG S0 Ts S l gs){e:TypeId}{z:List Value}(ho:nth pl q=some (o,j))(hop:o.op= .alloc e)(hw:wantE ops L o=some true)(hd:o.dst=some d)(hn:Nat.blt d n=true)(hz:zeroOf P e=some z)
  (h:∀B S',HoldG S0 Ts S' ((B,.cells z e false true [])::l) gs→RP P K n ops bef pl (q+1) (⟨j,o.op,undef,L,some (B,z,e,false)⟩::E) ((d,ptrTo B 0)::L) S' Q):RP P K n ops bef pl q E L S Q :=
 rp_alloc ho hop hw hd hn hz (hl.keep.3 hF _ (Nat.le_refl _)) (h _ _ (hl.new _))
theorem rp_appendG(hl:HoldG S0 Ts S l gs)(k:Nat){g:Gr}(hk:nth gs k=some g)(hr:(l.all fun p=>!isRow p.2)=true)(hd:(gs.map (·.e)).Nodup){as:Array Operand}{ts:Array TypeId}{sT xT:TypeId}{xd:TypeDesc}{x:Value}{m:Nat}{new:List Value}
  (ho:nth pl q=some (o,j))(hop:o.op= .call ⟨.builtin .append,as,ts⟩)(hw:wantE ops L o=some true)(hdst:o.dst=some d)(hlt:Nat.blt d n=true)(hx:evs L as.toList=some [g.v,x])(hts:ts.toList= [sT,xT])
  (hu:P.underlying sT=some (.slice g.e))(hux:P.underlying xT=some xd)(hi:isIntT xd=false)(hlen:lenOfV x=some m)(hz:szOf P g.e=some g.z)(hs:sourceCells S g.z m x=some new)
  (hnl:new.length=m*g.z)(hc:new.all cellV=true)(hgb:growB P g.e g.z=true)(hneed:g.n+m≤maxNeed)
  (h:∀v S',HoldG S0 Ts S' l (setG k ⟨v,g.e,g.z,g.c++new,g.n+m⟩ gs)→Stays P n S' ((nth bef j).getD 0) E∧RP P K n ops bef pl (q+1) (left ((nth bef j).getD 0) E) ((d,v)::L) S' Q):RP P K n ops bef pl q E L S Q:=by
 obtain⟨v,S',h1,h2⟩:=append_step hl hk hr hd hts hu hux hi hlen hz hs hnl hc hgb hneed
 exact rp_heavyD ho (by rw[hop];rfl) hw hdst hlt (fun a ha=>⟨0,by rw[hop];unfold stepOp;simp only[kindOf,evs_eq ha hx,h1]⟩) (h v S' h2).1 (h v S' h2).2
theorem bs_new{t elem:TypeId}{len:Nat}{ps:Array (Nat×Operand)}{us:List (Nat×Value)}{c:List Value}(hop:o.op= .buildSlice t len ps)
  (hu:P.underlying t=some (.slice elem))(hx:evp L ps.toList=some us)(hc:bsF P elem len us=some c):∀a,Has n a L→newOp P a.ev o.op S=some (.slice (some ⟨S.size,0,none⟩) len len,(S.new (.cells c elem true true [])).2):=by
 intro a ha
 unfold bsF at hc
 rw[hop]
 simp only[newOp,hu,evp_eq ha hx]
 split at hc
 ·rename_i ei hi
  split at hc
  ·rename_i z hz
   split at hc
   ·rename_i hle
    rw[hi];simp only[hz];rw[if_pos hle,hc];rfl
   cases hc
  cases hc
 cases hc
theorem rp_buildSliceR(hF:Fresh S0)(hl:HoldG S0 Ts S l gs){t elem:TypeId}{len:Nat}{ps:Array (Nat×Operand)}{us:List (Nat×Value)}{c:List Value}(ho:nth pl q=some (o,j))(hop:o.op= .buildSlice t len ps)(hw:wantE ops L o=some true)(hd:o.dst=some d)(hn:Nat.blt d n=true)
  (hu:P.underlying t=some (.slice elem))(hx:evp L ps.toList=some us)(hc:bsF P elem len us=some c)
  (h:∀B S',S'.get B=some (.cells c elem true true [])→RowAt S' B elem c→HoldG S0 Ts S' l gs→RP P K n ops bef pl (q+1) (⟨j,o.op,undef,L,some (B,c,elem,true)⟩::E) ((d,.slice (some ⟨B,0,none⟩) len len)::L) S' Q):RP P K n ops bef pl q E L S Q :=
 rp_fresh ho (by rw[hop];rfl) hw hd hn (bs_new hop hu hx hc) (hl.keep.3 hF _ (Nat.le_refl _)) (h _ _ (get_new _ _) ⟨Nat.lt_succ_self _,_,_,get_new _ _⟩ (hl.call (Keep.new S _)))
theorem rp_storeL(hl:HoldG S0 Ts S l gs)(k:Nat){t:TypeId}{x y:Operand}{v:Value}{b off:Nat}{c c':List Value}{e:TypeId}(hk:nth l k=some (b,.cells c e false true []))(ho:nth pl q=some (o,j))(hop:o.op= .store t x y)(hw:wantE ops L o=some true)(hd:o.dst=none)(hx:evE L x=some (ptrTo b off))(hy:evE L y=some v)
  (hz:storeOk P t v=true)(hs:setN off (cellsL v) c=some c')
  (h:∀S',HoldG S0 Ts S' (putB k (.cells c' e false true []) l) gs→Stays P n S' ((nth bef j).getD 0) E∧RP P K n ops bef pl (q+1) (left ((nth bef j).getD 0) E) L S' Q):RP P K n ops bef pl q E L S Q :=
 rp_store ho hop hw hd hx hy (store_local hz (hl.get k hk) hs) (h _ (hl.put hk rfl _)).1 (h _ (hl.put hk rfl _)).2
end
end
theorem slice_all{z:Nat}:∀(C:List (List Value)) (l:List Value),(∀k x,nth C k=some x→takeN z (l.drop (k*z))=some x)→takeN (C.length*z) l=some C.flatten
 | [],l,_=>by simp[takeN]
 |x::C,l,h=>by
  have h0:=h 0 x rfl
  rw[Nat.zero_mul,List.drop_zero]at h0
  obtain⟨hx,hle,hxe⟩:=takeN_spec _ _ _ h0
  have ih:=slice_all C (l.drop z) fun k y hy=>by
   have:=h (k+1) y hy
   rw[List.drop_drop,show z+k*z=(k+1)*z by rw[Nat.add_mul];omega]
   exact this
  obtain⟨h1,h2,h3⟩:=takeN_spec _ _ _ ih
  rw[List.length_cons,Nat.add_mul,Nat.one_mul]
  rw[List.length_drop]at h2
  rw[takeN_some _ _ (by omega)]
  rw[List.flatten_cons,hxe,h3,Nat.add_comm (C.length*z) z,List.take_add]
theorem SliceAt.cells{S:St}{e:TypeId}{z:Nat}{a:Option Addr}{len cap:Nat}{C:List (List Value)}(h:SliceAt S e z (.slice a len cap) C):sourceCells S z len (.slice a len cap)=some C.flatten:=by
 rcases h with ⟨rfl,e|⟨b,o,k,e⟩⟩|⟨b,o,cap2,cs,e,_,⟨_,own,kin,hg⟩,h3⟩
 ·cases e;rfl
 ·cases e;rfl
 cases e
 show readCells S b o (C.length*z)=_
 unfold readCells
 rw[hg]
 show takeN (C.length*z) (dropN o cs)=_
 rw[dropN_eq]
 refine slice_all C _ fun k x hk=>?_
 have:=h3 k x hk
 rw[dropN_eq]at this
 rw[List.drop_drop]
 exact this
theorem Grow.sliceAt{S0 S:St}{g:Gr}{C:List (List Value)}(h:Grow S0 S g)(hn:g.n=C.length)(hc:g.c=C.flatten)(hz:∀x,x∈C→x.length=g.z):SliceAt S g.e g.z g.v C:=by
 rcases h with ⟨h1,_,h3⟩|⟨b,kin,h1,_,h3,h4,_⟩
 ·exact .inl ⟨List.length_eq_zero_iff.1 (hn▸h3),.inl h1⟩
 refine .inr ⟨b,0,g.n,g.c,by rw[h1,hn],by omega,⟨h3,_,_,h4⟩,fun k x hk=>?_⟩
 rw[Nat.zero_add,dropN_eq,hc]
 clear hn hc h1 h3 h4
 induction C generalizing k with
 |nil=>cases hk
 |cons y C ih =>
  have hy:=hz y (List.mem_cons_self ..)
  cases k with
  |zero =>
   obtain rfl:y=x:=Option.some.inj hk
   rw[Nat.zero_mul,List.drop_zero,List.flatten_cons,takeN_some _ _ (by rw[List.length_append];omega),←hy,List.take_left]
  |succ k =>
   rw[List.flatten_cons,Nat.add_mul,Nat.one_mul,Nat.add_comm (k*g.z) g.z,←List.drop_drop,←hy,List.drop_left,hy]
   exact ih (fun x hx=>hz x (List.mem_cons_of_mem _ hx)) k hk
end Go.Cm
namespace Go.Cm
open Go
variable{P:Program}{K:Known}
theorem rk_setR{S T:St}{b:Nat}(h:RK T S)(hb:T.size≤b)(y:Blk):RK T (S.set b y):=by
 refine⟨h.1,fun j e c hj=>?_⟩
 obtain⟨hjs,own,kin,hg⟩:=h.2 j e c hj
 have:=hj.1
 exact⟨hjs,own,kin,by rw[get_set',if_neg (by omega)];exact hg⟩
section
variable{S0 S:St}{Ts:List St}{l:List (Nat×Blk)}{gs:List Gr}
theorem HoldG.putR(h:HoldG S0 Ts S l []){k b:Nat}{x:Blk}(hk:nth l k=some (b,x))(hT:∀T,T∈Ts→T.size≤b)(y:Blk):HoldG S0 Ts (S.set b y) (putB k y l) []:=by
 have hm:=h.at_ b x (nth_mem hk)
 refine⟨h.keep.set hm.2.1 hm.2.2 y,by rw[putB_fst];exact h.nd,fun c z hz=>?_,fun T ht=>rk_setR (h.rk T ht) (hT T ht) y,fun g hg=>(List.not_mem_nil hg).elim⟩
 rcases putB_mem hk h.nd c z hz with ⟨rfl,rfl⟩|⟨hne,hz⟩
 ·exact⟨by rw[get_set',if_pos rfl],hm.2.1,hm.2.2⟩
 obtain⟨h1,h2,h3⟩:=h.at_ c z hz
 exact⟨by rw[get_set',if_neg hne];exact h1,h2,h3⟩
theorem HoldG.old(h:HoldG S0 [S0] S l gs){k b:Nat}{x:Blk}(hk:nth l k=some (b,x)):∀T,T∈[S0]→T.size≤b:=fun T hT=>by
 rw[List.mem_singleton.1 hT]
 exact(h.at_ b x (nth_mem hk)).2.1
end
theorem store_row{S:St}{t:TypeId}{b o:Nat}{v:Value}{c c':List Value}{e:TypeId}(hz:storeOk P t v=true)
  (hg:S.get b=some (.cells c e true true []))(hs:setN o (cellsL v) c=some c'):storeV P t (ptrTo b o) v S=some (S.set b (.cells c' e true true [])):=by
 unfold storeOk at hz
 unfold storeV ptrTo
 split at hz
 ·rename_i z h1
  simp only[Bool.and_eq_true]at hz
  obtain⟨⟨h2,h3⟩,h4⟩:=hz
  simp only[h1,h2,cond_true]
  unfold writeCells
  rw[hg]
  simp only[h3,h4,Bool.and_true,cond_true,hs]
  rfl
 cases hz
section
variable{n:Nat}{ro:Option Nat}{L:Env}{S S0:St}{Q:Post}{ops:List Oper}{i d:Nat}{o:Oper}{Ts:List St}{l:List (Nat×Blk)}{gs:List Gr}
theorem makeSlice_of{t e:TypeId}{ei:TypeInfo}{z:Value}{k1 k2:IntKind}{m:Nat}(hu:P.underlying t=some (.slice e))(hi:P.info? e=some ei)(hz:zeroV P e=some z)(hb:Nat.ble ei.bytes 1024=true)(hs:(cellsL z).length=ei.size)(hm:m≤maxNeed) :
  makeSliceV P t (.int k1 m) (.int k2 m) S=some (newSlice S (replL m (cellsL z)) e m m):=by
 unfold makeSliceV
 simp only[hu,hi,hz]
 rw[if_pos ⟨by omega,by omega,by omega,Nat.le_of_ble_eq_true hb,hs⟩]
 rfl
theorem re_makeSliceL(hl:HoldG S0 Ts S l gs){t e:TypeId}{x y:Operand}{ei:TypeInfo}{z:Value}{k1 k2:IntKind}{i1 i2:Int}{m:Nat}(ho:nth ops i=some o)(hop:o.op= .makeSlice t x y)(hw:wantE ops L o=some true)(hd:o.dst=some d)(hn:Nat.blt d n=true)
  (hx:evE L x=some (.int k1 i1))(hy:evE L y=some (.int k2 i2))(e1:i1=m)(e2:i2=m)(hu:P.underlying t=some (.slice e))(hi:P.info? e=some ei)(hz:zeroV P e=some z)(hb:Nat.ble ei.bytes 1024=true)(hs:(cellsL z).length=ei.size)(hm:m≤maxNeed)
  (h:∀B S',HoldG S0 Ts S' ((B,.cells (replL m (cellsL z)) e true true [])::l) gs→RE P K n ops (i+1) ((d,.slice (some ⟨B,0,none⟩) m m)::L) S' Q):RE P K n ops i L S Q:=by
 subst e1;subst e2
 exact re_makeSlice ho hop hw hd hn hx hy (makeSlice_of hu hi hz hb hs hm) (h _ _ (hl.new _))
end
section
variable{κ:Type}[DecidableEq κ](kc:κ→Value)
def ents:Nat→List (κ×Value)→List MapEntry
 |_,[]=>[]
 |c,(k,v)::r=>{key:=kc k,val:=v,born:=c}::ents (c+1) r
def posA:List (κ×Value)→κ→Option (Nat×Value)
 | [],_=>none
 |(a,w)::r,k=>if k=a then some (0,w)else match posA r k with
  |some (j,v)=>some (j+1,v)
  |none=>none
def asc(D:List (κ×Value))(k:κ):Option Value:=match posA D k with
 |some (_,v)=>some v
 |none=>none
def putA:List (κ×Value)→κ→Value→List (κ×Value)
 | [],k,v=>[(k,v)]
 |(a,w)::r,k,v=>if k=a then(a,v)::r else(a,w)::putA r k v
theorem asc_put(D:List (κ×Value))(k:κ)(v:Value)(k':κ):asc (putA D k v) k'=if k'=k then some v else asc D k':=by
 induction D with
 |nil =>
  unfold putA asc posA
  by_cases h:k'=k
  ·simp only[h,if_true]
  simp only[h,if_false,posA]
 |cons x D ih =>
  obtain⟨a,w⟩:=x
  unfold putA
  by_cases h:k=a
  ·subst h
   simp only[if_true]
   unfold asc posA
   by_cases h2:k'=k
   ·simp only[h2,if_true]
   simp only[h2,if_false]
  simp only[if_neg h]
  have step:∀(r:List (κ×Value)),asc ((a,w)::r) k'=if k'=a then some w else asc r k':=by
   intro r
   show(match(if k'=a then some (0,w)else match posA r k' with
    |some (j,v)=>some (j+1,v)
    |none=>none)with
    |some (_,v)=>some v
    |none=>none)=if k'=a then some w else match posA r k' with
    |some (_,v)=>some v
    |none=>none
   by_cases h2:k'=a
   ·rw[if_pos h2,if_pos h2]
   rw[if_neg h2,if_neg h2]
   cases posA r k'<;>rfl
  rw[step,step,ih]
  by_cases h2:k'=a
  ·subst h2
   rw[if_pos rfl,if_neg (fun e=>h e.symm),if_pos rfl]
  rw[if_neg h2,if_neg h2]
variable{kc}
theorem find_ents{t:TypeId}(heq:∀a b,eqV P eqDepth t (kc a) (kc b)=some (decide (a=b)))(k:κ):∀(D:List (κ×Value)) (c i:Nat),findV P t (kc k) (ents kc c D) i=some (match posA D k with
  |some (j,v)=>some (i+j,v)
  |none=>none)
 | [],c,i=>rfl
 |(a,w)::D,c,i=>by
  unfold ents findV
  simp only[heq]
  by_cases h:k=a
  ·simp only[h,decide_true,posA,if_true];rfl
  simp only[h,decide_false,posA,if_false]
  rw[find_ents heq k D (c+1) (i+1)]
  cases posA D k with
  |none=>rfl
  |some x=>simp only;rw[show i+1+x.1=i+(x.1+1) by omega]
theorem ents_nth(k:κ):∀(D:List (κ×Value)) (c j:Nat) (w:Value),posA D k=some (j,w)→∃e,nth (ents kc c D) j=some e∧e.key=kc k
 | [],c,j,w,h=>by cases h
 |(a,u)::D,c,j,w,h=>by
  unfold posA at h
  by_cases hk:k=a
  ·rw[if_pos hk]at h
   cases h
   exact⟨_,rfl,by rw[hk]⟩
  rw[if_neg hk]at h
  split at h
  ·rename_i hp
   cases h
   exact ents_nth k D (c+1) _ _ hp
  cases h
theorem ents_set(k:κ)(v:Value):∀(D:List (κ×Value)) (c j:Nat) (w:Value),posA D k=some (j,w)→setEntry (ents kc c D) j (kc k) v=ents kc c (putA D k v)
 | [],c,j,w,h=>by cases h
 |(a,u)::D,c,j,w,h=>by
  unfold posA at h
  unfold putA
  by_cases hk:k=a
  ·rw[if_pos hk]at h
   cases h
   rw[if_pos hk,hk];rfl
  rw[if_neg hk]at h ⊢
  split at h
  ·rename_i hp
   cases h
   show _::setEntry (ents kc (c+1) D) _ (kc k) v=_
   rw[ents_set k v D (c+1) _ _ hp]
   rfl
  cases h
theorem ents_app(k:κ)(v:Value):∀(D:List (κ×Value)) (c:Nat),posA D k=none→ents kc c D++[{key:=kc k,val:=v,born:=c+D.length}]=ents kc c (putA D k v)
 | [],c,_=>rfl
 |(a,u)::D,c,h=>by
  unfold posA at h
  unfold putA
  by_cases hk:k=a
  ·rw[if_pos hk]at h;cases h
  rw[if_neg hk]at h ⊢
  split at h
  ·cases h
  rename_i hp
  have ih:=ents_app k v D (c+1) hp
  show _::(ents kc (c+1) D++_)=_::ents kc (c+1) (putA D k v)
  rw[←ih,List.length_cons,show c+(D.length+1)=c+1+D.length by omega]
theorem put_len_some{k:κ}{v:Value}:∀{D:List (κ×Value)} {x:Nat×Value},posA D k=some x→(putA D k v).length=D.length
 | [],x,h=>by cases h
 |(a,u)::D,x,h=>by
  unfold posA at h
  unfold putA
  by_cases hk:k=a
  ·rw[if_pos hk];rfl
  rw[if_neg hk]at h ⊢
  split at h
  ·rename_i hp
   rw[List.length_cons,put_len_some hp,List.length_cons]
  cases h
theorem put_len_none{k:κ}{v:Value}:∀{D:List (κ×Value)},posA D k=none→(putA D k v).length=D.length+1
 | [],_=>rfl
 |(a,u)::D,h=>by
  unfold posA at h
  unfold putA
  by_cases hk:k=a
  ·rw[if_pos hk]at h;cases h
  rw[if_neg hk]at h ⊢
  split at h
  ·cases h
  rename_i hp
  rw[List.length_cons,put_len_none hp,List.length_cons]
def mapB(kc:κ→Value)(D:List (κ×Value)):Blk:= .map (ents kc 0 D) D.length
theorem mapUpdate_of{S:St}{t kt et:TypeId}{r:Nat}{D:List (κ×Value)}{k:κ}{v:Value}(hu:P.underlying t=some (.map kt et))(hg:S.get r=some (mapB kc D))(heq:∀a b,eqV P eqDepth kt (kc a) (kc b)=some (decide (a=b)))
  (hok:keyOk P 20 kt (kc k)=true)(hpl:plainKey 20 (kc k)=true)(hsame:sameV 1000 (kc k) (kc k)=true):mapUpdateV P t (.map (some r)) (kc k) v S=some (S.set r (mapB kc (putA D k v))):=by
 unfold mapUpdateV
 simp only[hu,hg,mapB]
 rw[if_pos (by rw[hok,hpl];rfl),find_ents heq]
 cases hp:posA D k with
 |none =>
  simp only
  rw[put_len_none hp]
  have:=ents_app (kc:=kc) k v D 0 hp
  rw[Nat.zero_add]at this
  rw[this]
 |some x =>
  obtain⟨j,w⟩:=x
  obtain⟨e,h1,h2⟩:=ents_nth (kc:=kc) k D 0 j w hp
  simp only[Nat.zero_add,h1,h2,hsame,cond_true]
  rw[ents_set k v D 0 j w hp,put_len_some hp]
theorem lookup_of{S:St}{t kt et:TypeId}{r:Nat}{D:List (κ×Value)}{k:κ}{z:Value}(hu:P.underlying t=some (.map kt et))(hg:S.get r=some (mapB kc D))(heq:∀a b,eqV P eqDepth kt (kc a) (kc b)=some (decide (a=b)))
  (hok:keyOk P 20 kt (kc k)=true)(hz:zeroV P et=some z):lookupV P t (.map (some r)) (kc k) false S=some ((asc D k).getD z):=by
 unfold lookupV mapOf
 simp only[hu,hg,mapB,hok,if_true]
 rw[find_ents heq]
 unfold asc
 cases posA D k with
 |none=>simp only[hz];rfl
 |some x=>rfl
end
section
variable{κ:Type}[DecidableEq κ]{kc:κ→Value}
variable{n:Nat}{ro:Option Nat}{L:Env}{S S0:St}{Q:Post}{ops:List Oper}{i d:Nat}{o:Oper}{Ts:List St}{l:List (Nat×Blk)}{gs:List Gr}
omit [DecidableEq κ]in
theorem re_makeMapL(hl:HoldG S0 Ts S l gs){t:TypeId}(kc:κ→Value)(ho:nth ops i=some o)(hop:o.op= .makeMap t none)(hw:wantE ops L o=some true)(hd:o.dst=some d)(hn:Nat.blt d n=true)
  (h:∀B S',HoldG S0 Ts S' ((B,mapB kc [])::l) gs→RE P K n ops (i+1) ((d,.map (some B))::L) S' Q):RE P K n ops i L S Q :=
 re_step ho hw hd hn (fun a _=>⟨0,by rw[hop];unfold stepOp;simp only[kindOf,newOp];rfl⟩) (h _ _ (hl.new _))
theorem re_mapUpdateL(hl:HoldG S0 Ts S l gs)(j:Nat){t kt et:TypeId}{x y z:Operand}{M:Nat}{D:List (κ×Value)}{k:κ}{v:Value}(hk:nth l j=some (M,mapB kc D))(ho:nth ops i=some o)(hop:o.op= .mapUpdate t x y z)(hw:wantE ops L o=some true)(hd:o.dst=none)
  (hx:evE L x=some (.map (some M)))(hy:evE L y=some (kc k))(hz:evE L z=some v)(hu:P.underlying t=some (.map kt et))(heq:∀a b,eqV P eqDepth kt (kc a) (kc b)=some (decide (a=b)))
  (hok:keyOk P 20 kt (kc k)=true)(hpl:plainKey 20 (kc k)=true)(hsame:sameV 1000 (kc k) (kc k)=true)
  (h:∀S',HoldG S0 Ts S' (putB j (mapB kc (putA D k v)) l) gs→RE P K n ops (i+1) L S' Q):RE P K n ops i L S Q :=
 re_step0 (v:=undef) ho hw hd (fun a ha=>⟨0,by rw[hop];unfold stepOp;simp only[kindOf,heavyOp];rw[ha.ev hx,ha.ev hy,ha.ev hz,mapUpdate_of hu (hl.get j hk) heq hok hpl hsame]⟩) (h _ (hl.put hk rfl _))
end
end Go.Cm
namespace Go.Cm
open Go
variable{P:Program}{K:Known}
def SubL(L1 L':Env):Prop:= ∀k v,look L1 k=some v→look L' k=some v
theorem subL_refl(L:Env):SubL L L:=fun _ _ h=>h
theorem subL_skip{L L':Env}{k:Nat}{v:Value}(hk:look L k=none)(h:SubL L L'):SubL L ((k,v)::L'):=fun j u hj=>by
 rw[look_cons]
 by_cases e:j=k
 ·subst e;rw[hk]at hj;cases hj
 rw[if_neg e];exact h j u hj
theorem Has.subL{n:Nat}{a:Ca}{L L':Env}(h:Has n a L)(hs:SubL L' L):Has n a L':=⟨h.nn,h.le,h.df,fun k v hk=>h.val k v (hs k v hk)⟩
theorem SubE.subL{L' L:Env}(h:SubE L' L):SubL L' L:=h.look
section
variable{n:Nat}{ro:Option Nat}{L:Env}{S S0:St}{Q:Post}{Ts:List St}{l:List (Nat×Blk)}{gs:List Gr}
theorem xe_toE(_:HoldG S0 Ts S l gs){c:Code}(d:Nat)(v:Value)(h:XE P K n ro c L S fun e L' S'=>e= .normal∧look L' d=some v∧SubL L L'∧HoldG S0 Ts S' l gs)(hn:look L d=none)(hq:∀S',HoldG S0 Ts S' l gs→Q .normal ((d,v)::L) S'):XE P K n ro c L S Q:=by
 intro a ha
 obtain⟨m,e,a',S',L',h1,h2,h3,h4,h5,h6⟩:=h a ha
 subst h3
 refine⟨m,_,a',S',(d,v)::L,h1,h2.subL fun k u hk=>?_,hq S' h6⟩
 rw[look_cons]at hk
 by_cases e:k=d
 ·subst e;rw[if_pos rfl]at hk;cases hk;exact h4
 rw[if_neg e]at hk;exact h5 k u hk
theorem xe_toI{c:Code}(d:Nat)(I:Value→St→Prop)(h:XE P K n ro c L S fun e L' S'=>e= .normal∧∃v,look L' d=some v∧SubL L L'∧I v S')(hq:∀v S',I v S'→Q .normal ((d,v)::L) S'):XE P K n ro c L S Q:=by
 intro a ha
 obtain⟨m,e,a',S',L',h1,h2,h3,v,h4,h5,h6⟩:=h a ha
 subst h3
 refine⟨m,_,a',S',(d,v)::L,h1,h2.subL fun k u hk=>?_,hq v S' h6⟩
 rw[look_cons]at hk
 by_cases e:k=d
 ·subst e;rw[if_pos rfl]at hk;cases hk;exact h4
 rw[if_neg e]at hk;exact h5 k u hk
theorem xe_to0{c:Code}(I:St→Prop)(h:XE P K n ro c L S fun e L' S'=>e= .normal∧SubL L L'∧I S')(hq:∀S',I S'→Q .normal L S'):XE P K n ro c L S Q:=by
 intro a ha
 obtain⟨m,e,a',S',L',h1,h2,h3,h4,h5⟩:=h a ha
 subst h3
 exact⟨m,_,a',S',L,h1,h2.subL h4,hq S' h5⟩
def isLabel:Code→Bool
 | .label _=>true
 |_=>false
theorem xp_label{c:Code}(hk:isLabel c=true)(h:Q .normal L S):XE P K n ro c L S Q:=by
 cases c with
 |label l=>exact fun a ha=>⟨1,_,a,S,L,rfl,ha,h⟩
 |_=>cases hk
def Scp(Q:Post):Post:=fun e L S=>match e with
 | .goto _=>False
 |e=>Q e L S
theorem xp_scope{c:Code}(hk:pK c=8)(h:XE P K n ro (pA c) L S (Scp Q)):XE P K n ro c L S Q:=by
 have key:∀d,XE P K n ro d L S (Scp Q)→XE P K n ro (.scope d) L S Q:=fun d hd=>xe_scope (xe_mono hd fun e L' S' hq=>by
  cases e with
  |goto l=>exact hq.elim
  |_=>exact⟨fun l=>(by intro h;cases h),hq⟩)
 cases c<;>first|exact key _ h|(rename_i d;cases d<;>cases hk)|cases hk
theorem scp_ret(h:Q .ret L S):Scp Q .ret L S:=h
end
end Go.Cm
namespace Go.Cm
open Go
section
variable{S S0:St}{Ts:List St}{l l':List (Nat×Blk)}{gs:List Gr}
theorem HoldG.perm(h:HoldG S0 Ts S l gs)(hp:l.Perm l'):HoldG S0 Ts S l' gs:=⟨h.keep,(hp.map _).nodup_iff.1 h.nd,fun b x hx=>h.at_ b x (hp.mem_iff.2 hx),h.rk,h.gr⟩
end
end Go.Cm
namespace Go.Cm
open Go
variable{P:Program}{K:Known}
def msOk(P:Program)(e:TypeId)(z:Value):Bool:=match P.info? e with
 |some ei=>Nat.ble ei.bytes 1024&&Nat.beq (cellsL z).length ei.size
 |none=>false
section
variable{n:Nat}{ro:Option Nat}{L:Env}{S S0:St}{Q:Post}{ops:List Oper}{i d:Nat}{o:Oper}{Ts:List St}{l:List (Nat×Blk)}{gs:List Gr}
theorem re_makeSliceK(hl:HoldG S0 Ts S l gs){t e:TypeId}{x y:Operand}{z:Value}{k1 k2:IntKind}{i1 i2:Int}{m:Nat}(ho:nth ops i=some o)(hop:o.op= .makeSlice t x y)(hw:wantE ops L o=some true)(hd:o.dst=some d)(hn:Nat.blt d n=true)
  (hx:evE L x=some (.int k1 i1))(hy:evE L y=some (.int k2 i2))(e1:i1=m)(e2:i2=m)(hu:P.underlying t=some (.slice e))(hz:zeroV P e=some z)(hb:msOk P e z=true)(hm:m≤maxNeed)
  (h:∀B S',HoldG S0 Ts S' ((B,.cells (replL m (cellsL z)) e true true [])::l) gs→RE P K n ops (i+1) ((d,.slice (some ⟨B,0,none⟩) m m)::L) S' Q):RE P K n ops i L S Q:=by
 unfold msOk at hb
 split at hb
 ·rename_i ei hi
  rw[Bool.and_eq_true]at hb
  exact re_makeSliceL hl ho hop hw hd hn hx hy e1 e2 hu hi hz hb.1 (of_nbeq hb.2) hm h
 cases hb
end
theorem setN_one{α:Type}(x y:α)(r:List α):setN 0 [y] (x::r)=some (y::r):=by
 cases r<;>simp[setN]
theorem nth_rangeM{α:Type}(f:Nat→α):∀(n k i:Nat),i<n→nth ((List.range' k n).map f) i=some (f (k+i))
 |n+1,k,0,_=>rfl
 |n+1,k,i+1,h=>by
  show nth ((List.range' (k+1) n).map f) i=_
  rw[nth_rangeM f n (k+1) i (by omega)]
  congr 2;omega
end Go.Cm
namespace Go.Cm
open Go
variable{P:Program}{K:Known}
section
variable{ih:Fns}{full:List Oper}
end
end Go.Cm
namespace Go.Cm
open Go
variable{P:Program}{K:Known}
section
variable{n:Nat}{ro:Option Nat}{L:Env}{S:St}{ds:List Deferred}{Q:Exit→Env→St→List Deferred→Prop}
end
section
variable{n:Nat}{ro:Option Nat}{L:Env}{S:St}{Q:Post}{ops:List Oper}{i d:Nat}{o:Oper}
end
end Go.Cm
namespace Go.Cm
open Go
variable{P:Program}{K:Known}
abbrev PostD:=Exit→Env→St→List Deferred→Prop
section
variable{n:Nat}{L:Env}{S:St}{ds:List Deferred}{Q:PostD}{ops:List Oper}{i d:Nat}{o:Oper}
end
section
variable{k n:Nat}{L:Env}{S:St}{ds:List Deferred}{Q:PostD}{c:Code}
end
abbrev PostM:=Env→St→Mode→Prop
section
variable{n:Nat}{L:Env}{S:St}{md:Mode}{Q:PostM}{ops:List Oper}{i d:Nat}{o:Oper}
end
section
variable{k n:Nat}{L:Env}{S:St}{md:Mode}{Q:Exit→PostM}{c:Code}
end
end Go.Cm
namespace Go.Cm
open Go
variable{P:Program}{K:Known}{n:Nat}{ro:Option Nat}{L:Env}{S S0:St}{Q:Post}{ops:List Oper}{i d:Nat}{o:Oper}{Ts:List St}{l:List (Nat×Blk)}{gs:List Gr}
def gb:Value→Option Nat
 | .slice (some ⟨b,_,_⟩) _ _=>some b
 |_=>none
def Apart(gs:List Gr):Prop:= ∀i j g h,i≠j→nth gs i=some g→nth gs j=some h→gb g.v=none∨gb g.v≠gb h.v
theorem append2_base{e:TypeId}{base:Option Addr}{len cap m size:Nat}{new:List Value}{v:Value}{S':St}(hle:Nat.ble (len+m) cap=false)(h:append2 P e base len cap m size new S=some (v,S')) :
  gb v=some S.size∧∀b,b<S.size→S'.get b=S.get b∨gb (.slice base len cap)=some b:=by
 unfold append2 at h
 rw[hle]at h
 simp only[cond_false]at h
 cases hc:(growOk P e size (len+m)&&append2.cellsAll new)with
 |false=>rw[hc]at h;cases h
 |true =>
  rw[hc]at h
  simp only[cond_true]at h
  unfold appendOut at h
  split at h
  ·cases hb:Nat.beq len 0 with
   |false=>rw[hb]at h;cases h
   |true =>
    rw[hb]at h
    simp only[cond_true,Option.some.injEq]at h
    cases h
    exact⟨rfl,fun b hb=> .inl ((Keep.new S _).2 b hb)⟩
  ·cases hb:Nat.beq len 0 with
   |false=>rw[hb]at h;cases h
   |true =>
    rw[hb]at h
    simp only[cond_true,Option.some.injEq]at h
    cases h
    exact⟨rfl,fun b hb=> .inl ((Keep.new S _).2 b hb)⟩
  rename_i b o
  split at h
  ·rename_i c e2 kin hg
   split at h
   ·rename_i old ho
    cases hb:(Nat.beq e2 e&&Nat.beq (o+len*size) c.length)with
    |false=>rw[hb]at h;cases h
    |true =>
     rw[hb]at h
     simp only[cond_true,Option.some.injEq]at h
     cases h
     refine⟨rfl,fun j hj=>?_⟩
     rw[(Keep.new (S.set b (.cells c e2 true false kin)) _).2 j hj,get_set']
     by_cases e:j=b
     ·subst e;exact .inr rfl
     exact .inl (by rw[if_neg e])
   cases h
  cases h
theorem nth_setG_ne:∀{k j:Nat} {x:Gr} {l:List Gr},j≠k→nth (setG k x l) j=nth l j
 |k,_,_,[],_=>by cases k<;>rfl
 |0,0,_,_::_,h=>absurd rfl h
 |0,_+1,_,_::_,_=>rfl
 |_+1,0,_,_::_,_=>rfl
 |k+1,j+1,x,_::l,h=>nth_setG_ne (k:=k) (j:=j) (l:=l) fun e=>h (by rw[e])
theorem nth_setG_eq:∀{k:Nat} {x y:Gr} {l:List Gr},nth (setG k x l) k=some y→y=x
 |k,_,_,[],h=>by cases k<;>cases h
 |0,_,_,_::_,h=>(Option.some.inj h).symm
 |k+1,x,y,_::l,h=>nth_setG_eq (k:=k) (l:=l) h
theorem mem_nthG:∀{l:List Gr} {x:Gr},x∈l→∃j,nth l j=some x
 |y::l,x,h=>by
  rcases List.mem_cons.1 h with rfl|h
  ·exact⟨0,rfl⟩
  obtain⟨j,hj⟩:=mem_nthG h
  exact⟨j+1,hj⟩
theorem gb_lt{g:Gr}{b:Nat}(h:Grow S0 S g)(hb:gb g.v=some b):b<S.size:=by
 rcases h with ⟨h1,_⟩|⟨b2,kin,h1,_,h3,_⟩
 ·rw[h1]at hb;cases hb
 rw[h1]at hb;cases hb;exact h3
theorem append_stepA(hl:HoldG S0 Ts S l gs)(hA:Apart gs){k:Nat}{g:Gr}(hk:nth gs k=some g)(hr:(l.all fun p=>!isRow p.2)=true){ts:Array TypeId}{sT xT:TypeId}{xd:TypeDesc}{x:Value}{m:Nat}{new:List Value}
  (hts:ts.toList= [sT,xT])
  (hu:P.underlying sT=some (.slice g.e))(hux:P.underlying xT=some xd)(hi:isIntT xd=false)(hlen:lenOfV x=some m)(hm:0<m)(hs:sourceCells S g.z m x=some new)(hz:szOf P g.e=some g.z)
  (hnl:new.length=m*g.z)(hc:new.all cellV=true)(hgb:growB P g.e g.z=true)(hneed:g.n+m≤maxNeed) :
  ∃v S',builtinV P .append ts.toList [g.v,x] S=some (v,S')∧HoldG S0 Ts S' l (setG k ⟨v,g.e,g.z,g.c++new,g.n+m⟩ gs)∧Apart (setG k ⟨v,g.e,g.z,g.c++new,g.n+m⟩ gs):=by
 have hgr:=hl.gr g (nth_mem hk)
 obtain⟨base,hv⟩:∃base,g.v= .slice base g.n g.n:=by
  rcases hgr with ⟨h1,_,h3⟩|⟨b,kin,h1,_⟩
  ·exact⟨none,by rw[h1,h3]⟩
  exact⟨_,h1⟩
 obtain⟨v',S',h1,h2,h3⟩:=append2_grow (P:=P) hgr hl.keep.1 hm hnl hc (growOk_of hgb hneed) hv
 obtain⟨k1,k2⟩:=append2_base (by cases hb:Nat.ble (g.n+m) g.n with
  |false=>rfl
  |true=>have:=Nat.le_of_ble_eq_true hb;omega) h1
 have hother:∀j y,nth gs j=some y→j≠k→Grow S0 S' y:=fun j y hy hj=>by
  rcases hl.gr y (nth_mem hy)with h|⟨b,kin,j1,j2,j3,j4,j5⟩
  ·exact .inl h
  refine .inr ⟨b,kin,j1,j2,Nat.lt_of_lt_of_le j3 h3.1,?_,j5⟩
  rcases k2 b j3 with e|e
  ·exact e.trans j4
  rw[←hv]at e
  rcases hA k j g y (Ne.symm hj) hk hy with a|a
  ·rw[a]at e;cases e
  exact absurd (by rw[e,j1];rfl) a
 refine⟨v',S',?_,?_,?_⟩
 ·unfold builtinV
  simp only
  have:appendV P ts.toList g.v x S=some (v',S'):=by
   unfold appendV
   rw[hts]
   simp only[hu,hux,hlen,hv,hi,hz,hs,cond_false]
   exact h1
  rw[this]
 ·refine⟨⟨Nat.le_trans hl.keep.1 h3.1,fun b hb=>?_,fun f=>h3.2.2 (hl.keep.3 f)⟩,hl.nd,fun b x hx=>?_,fun T ht=>(hl.rk T ht).trans h3.rk,fun y hy=>?_⟩
  ·have hb':=Nat.lt_of_lt_of_le hb hl.keep.1
   rcases h3.2.1 b hb' with e|⟨_,_,_,h2,_⟩
   ·exact e.trans (hl.keep.2 b hb)
   omega
  ·obtain⟨h1,h2,h4⟩:=hl.at_ b x hx
   refine⟨?_,h2,Nat.lt_of_lt_of_le h4 h3.1⟩
   rcases h3.2.1 b h4 with e|⟨c,kin,k1,_,_⟩
   ·exact e.trans h1
   rw[h1]at k1
   cases k1
   have:=List.all_eq_true.1 hr _ hx
   cases this
  obtain⟨j,hj⟩:=mem_nthG hy
  by_cases e:j=k
  ·subst e;rw[nth_setG_eq hj];exact h2
  rw[nth_setG_ne e]at hj
  exact hother j y hj e
 intro i j x y hij hx hy
 by_cases e:i=k
 ·subst e
  rw[nth_setG_eq hx]
  rw[nth_setG_ne (Ne.symm hij)]at hy
  refine .inr fun e2=>?_
  have:=gb_lt (hl.gr y (nth_mem hy)) (b:=S.size) (by rw[←e2];exact k1)
  omega
 rw[nth_setG_ne e]at hx
 by_cases e3:j=k
 ·subst e3
  rw[nth_setG_eq hy]
  refine .inr fun e2=>?_
  have:=gb_lt (hl.gr x (nth_mem hx)) (b:=S.size) (by rw[e2];exact k1)
  omega
 rw[nth_setG_ne e3]at hy
 exact hA i j x y hij hx hy
theorem re_appendA(hl:HoldG S0 Ts S l gs)(hA:Apart gs)(k:Nat){g:Gr}(hk:nth gs k=some g)(hr:(l.all fun p=>!isRow p.2)=true){as:Array Operand}{ts:Array TypeId}{sT xT:TypeId}{xd:TypeDesc}{x:Value}{m:Nat}{new:List Value}
  (ho:nth ops i=some o)(hop:o.op= .call ⟨.builtin .append,as,ts⟩)(hw:wantE ops L o=some true)(hdst:o.dst=some d)(hlt:Nat.blt d n=true)(hx:evs L as.toList=some [g.v,x])(hts:ts.toList= [sT,xT])
  (hu:P.underlying sT=some (.slice g.e))(hux:P.underlying xT=some xd)(hi:isIntT xd=false)(hlen:lenOfV x=some m)(hm:0<m)(hz:szOf P g.e=some g.z)(hs:sourceCells S g.z m x=some new)
  (hnl:new.length=m*g.z)(hc:new.all cellV=true)(hgb:growB P g.e g.z=true)(hneed:g.n+m≤maxNeed)
  (h:∀v S',HoldG S0 Ts S' l (setG k ⟨v,g.e,g.z,g.c++new,g.n+m⟩ gs)→Apart (setG k ⟨v,g.e,g.z,g.c++new,g.n+m⟩ gs)→RE P K n ops (i+1) ((d,v)::L) S' Q):RE P K n ops i L S Q:=by
 obtain⟨v,S',h1,h2,h3⟩:=append_stepA hl hA hk hr hts hu hux hi hlen hm hs hz hnl hc hgb hneed
 exact re_builtin ho hop hw hdst hlt rfl hx h1 (h v S' h2 h3)
end Go.Cm
namespace Go.Cm
open Go
variable{P:Program}{K:Known}{n:Nat}{ro:Option Nat}{L:Env}{S S0:St}{Q:Post}{ops:List Oper}{i d:Nat}{o:Oper}
def deadL(e:TypeId)(ks:List Nat):List (Nat×Blk):=ks.map fun k=>(k,.cells [] e true false [])
theorem deadL_fst(e:TypeId)(ks:List Nat):(deadL e ks).map (·.1)=ks:=by
 unfold deadL
 rw[List.map_map]
 exact List.map_id _
theorem HoldG.putT{r:List (Nat×Blk)}{b:Nat}{c:List Value}{e:TypeId}{ks:List Nat}(h:HoldG S0 [S0] S (r++(b,.cells c e true true ks)::deadL e ks) [])(y:Blk) :
  HoldG S0 [S0] ((S.kill ks).set b y) (r++[(b,y)]) []:=by
 have hnd:=h.nd
 rw[List.map_append,List.map_cons,deadL_fst]at hnd
 have hb:=h.at_ b _ (List.mem_append.2 (.inr (List.mem_cons_self ..)))
 have hks:∀k,k∈ks→S0.size≤k:=fun k hk=>(h.at_ k (.cells [] e true false []) (List.mem_append.2 (.inr (List.mem_cons_of_mem _ (List.mem_map.2 ⟨k,hk,rfl⟩))))).2.1
 have hget:∀j,j≠b→j∉ks→((S.kill ks).set b y).get j=S.get j:=fun j h1 h2=>by
  rw[get_set',if_neg h1,kill_get,if_neg h2]
 have hsz:((S.kill ks).set b y).size=S.size:=kill_size ks S
 have hold:∀j,j<S0.size→((S.kill ks).set b y).get j=S.get j:=fun j hj=>hget j (by have:=hb.2.1;omega) (fun hm=>by have:=hks j hm;omega)
 have hdis:=(List.nodup_append.1 hnd)
 refine⟨⟨by rw[hsz];exact h.keep.1,fun j hj=>(hold j hj).trans (h.keep.2 j hj),fun f=>?_⟩,?_,fun j x hx=>?_,fun T ht=>?_,fun g hg=>(List.not_mem_nil hg).elim⟩
 ·intro j hj
  rw[hsz]at hj
  rw[get_set',if_neg (by have:=hb.2.2;omega),kill_get]
  split
  ·rfl
  exact h.keep.3 f j hj
 ·rw[List.map_append,List.map_cons,List.map_nil]
  refine List.nodup_append.2 ⟨hdis.1,List.nodup_cons.2 ⟨List.not_mem_nil,List.nodup_nil⟩,fun a ha c hc=>?_⟩
  rw[List.mem_singleton.1 hc]
  exact hdis.2.2 a ha b (List.mem_cons_self ..)
 ·rw[hsz]
  rcases List.mem_append.1 hx with hx|hx
  ·have hm:=h.at_ j x (List.mem_append.2 (.inl hx))
   have hj:j∈r.map (·.1):=List.mem_map.2 ⟨(j,x),hx,rfl⟩
   refine⟨?_,hm.2⟩
   rw[hget j (hdis.2.2 j hj b (List.mem_cons_self ..)) (fun hk=>hdis.2.2 j hj j (List.mem_cons_of_mem _ hk) rfl)]
   exact hm.1
  cases List.mem_singleton.1 hx
  exact⟨by rw[get_set',if_pos rfl],hb.2⟩
 rw[List.mem_singleton.1 ht]
 refine⟨by rw[hsz];exact h.keep.1,fun j e2 c2 ⟨hj,own,kin,hg⟩=>⟨by rw[hsz];exact Nat.lt_of_lt_of_le hj h.keep.1,own,kin,?_⟩⟩
 rw[hold j hj,h.keep.2 j hj]
 exact hg
theorem store_rowK{t:TypeId}{b off:Nat}{v:Value}{c c':List Value}{e:TypeId}{ks:List Nat}(hz:storeOk P t v=true)
  (hg:S.get b=some (.cells c e true true ks))(hs:setN off (cellsL v) c=some c'):storeV P t (ptrTo b off) v S=some ((S.kill ks).set b (.cells c' e true true [])):=by
 unfold storeOk at hz
 unfold storeV ptrTo
 split at hz
 ·rename_i z h1
  simp only[Bool.and_eq_true]at hz
  obtain⟨⟨h2,h3⟩,h4⟩:=hz
  simp only[h1,h2,cond_true]
  unfold writeCells
  rw[hg]
  simp only[h3,h4,Bool.and_true,cond_true,hs]
 cases hz
theorem append_stepT{l:List (Nat×Blk)}{B0:Nat}{e:TypeId}(hl:HoldG S0 [S0] S ((B0,.cells [] e true true [])::l) []){ts:Array TypeId}{sT xT:TypeId}{xd:TypeDesc}{x:Value}{m z:Nat}{new:List Value}
  (hts:ts.toList= [sT,xT])(hu:P.underlying sT=some (.slice e))(hux:P.underlying xT=some xd)(hi:isIntT xd=false)(hlen:lenOfV x=some m)(hm:0<m)(hz:szOf P e=some z)(hs:sourceCells S z m x=some new)
  (hc:new.all cellV=true)(hgb:growB P e z=true)(hneed:m≤maxNeed) :
  ∃B S',builtinV P .append ts.toList [.slice (some ⟨B0,0,none⟩) 0 0,x] S=some (.slice (some ⟨B,0,none⟩) m m,S')∧HoldG S0 [S0] S' ((B,.cells new e true true [B0])::(B0,.cells [] e true false [])::l) []:=by
 have h0:=hl.get 0 rfl
 have hp:=(hl.putR (k:=0) rfl (hl.old (k:=0) rfl) (.cells [] e true false [])).new (.cells new e true true [B0])
 refine⟨_,_,?_,hp⟩
 unfold builtinV
 simp only
 have hb:Nat.ble (0+m) 0=false:=by
  cases hb:Nat.ble (0+m) 0 with
  |false=>rfl
  |true=>have:=Nat.le_of_ble_eq_true hb;omega
 have:appendV P ts.toList (.slice (some ⟨B0,0,none⟩) 0 0) x S=some (.slice (some ⟨(S.set B0 (.cells [] e true false [])).size,0,none⟩) m m,((S.set B0 (.cells [] e true false [])).new (.cells new e true true [B0])).2):=by
  unfold appendV
  rw[hts]
  simp only[hu,hux,hlen,hi,hz,hs,cond_false]
  unfold append2 append2.cellsAll
  rw[hb,growOk_of hgb (by omega:0+m≤maxNeed),hc]
  simp only[cond_false,Bool.and_self,cond_true]
  unfold appendOut
  simp only[h0,Nat.zero_mul,Nat.add_zero,List.length_nil,nbeq_tt,Bool.and_self,cond_true,Nat.zero_add]
  rfl
 rw[this]
def RowT(e:TypeId)(aw:Option Addr)(m:Nat)(new:List Value)(tl:List (Nat×Blk)):Prop :=
 (∃B0,m=0∧new= []∧aw=some ⟨B0,0,none⟩∧tl= [(B0,.cells [] e true true [])]) ∨
 ∃B B0,0<m∧aw=some ⟨B,0,none⟩∧tl= [(B,.cells new e true true [B0]),(B0,.cells [] e true false [])]
theorem append_stepS{l:List (Nat×Blk)}{B0:Nat}{e:TypeId}(hl:HoldG S0 [S0] S ((B0,.cells [] e true true [])::l) []){ts:Array TypeId}{sT xT:TypeId}{xd:TypeDesc}{x:Value}{m z:Nat}{new:List Value}
  (hts:ts.toList= [sT,xT])(hu:P.underlying sT=some (.slice e))(hux:P.underlying xT=some xd)(hi:isIntT xd=false)(hlen:lenOfV x=some m)(hz:szOf P e=some z)(hs:sourceCells S z m x=some new)
  (hnl:new.length=m*z)(hc:new.all cellV=true)(hgb:growB P e z=true)(hneed:m≤maxNeed) :
  ∃aw tl S',builtinV P .append ts.toList [.slice (some ⟨B0,0,none⟩) 0 0,x] S=some (.slice aw m m,S')∧RowT e aw m new tl∧HoldG S0 [S0] S' (tl++l) []:=by
 by_cases hm:0<m
 ·obtain⟨B,S',h1,h2⟩:=append_stepT hl hts hu hux hi hlen hm hz hs hc hgb hneed
  exact⟨_,_,S',h1,.inr ⟨B,B0,hm,rfl,rfl⟩,h2⟩
 obtain rfl:m=0:=by omega
 obtain rfl:new= []:=List.eq_nil_of_length_eq_zero (by rw[hnl,Nat.zero_mul])
 refine⟨some ⟨B0,0,none⟩,[(B0,.cells [] e true true [])],S,?_,.inl ⟨B0,rfl,rfl,rfl,rfl⟩,hl⟩
 unfold builtinV
 simp only
 have:appendV P ts.toList (.slice (some ⟨B0,0,none⟩) 0 0) x S=some (.slice (some ⟨B0,0,none⟩) 0 0,S):=by
  unfold appendV
  rw[hts]
  simp only[hu,hux,hlen,hi,hz,hs,cond_false]
  unfold append2
  have hb:Nat.ble (0+0) 0=true:=rfl
  rw[hb]
  simp only[cond_true]
  unfold appendIn
  rfl
 rw[this]
section
variable{bef:List Nat}{pl:List (Oper×Nat)}{q j:Nat}{E:List CkE}
theorem rp_appendS{l:List (Nat×Blk)}{B0:Nat}{e:TypeId}(hl:HoldG S0 [S0] S ((B0,.cells [] e true true [])::l) []){as:Array Operand}{ts:Array TypeId}{sT xT:TypeId}{xd:TypeDesc}{x:Value}{m z:Nat}{new:List Value}
  (ho:nth pl q=some (o,j))(hop:o.op= .call ⟨.builtin .append,as,ts⟩)(hw:wantE ops L o=some true)(hdst:o.dst=some d)(hlt:Nat.blt d n=true)(hx:evs L as.toList=some [.slice (some ⟨B0,0,none⟩) 0 0,x])(hts:ts.toList= [sT,xT])
  (hu:P.underlying sT=some (.slice e))(hux:P.underlying xT=some xd)(hi:isIntT xd=false)(hlen:lenOfV x=some m)(hz:szOf P e=some z)(hs:sourceCells S z m x=some new)
  (hnl:new.length=m*z)(hc:new.all cellV=true)(hgb:growB P e z=true)(hneed:m≤maxNeed)
  (h:∀aw tl S',RowT e aw m new tl→HoldG S0 [S0] S' (tl++l) []→Stays P n S' ((nth bef j).getD 0) E∧RP P K n ops bef pl (q+1) (left ((nth bef j).getD 0) E) ((d,.slice aw m m)::L) S' Q):RP P K n ops bef pl q E L S Q:=by
 obtain⟨aw,tl,S',h1,h2,h3⟩:=append_stepS hl hts hu hux hi hlen hz hs hnl hc hgb hneed
 exact rp_heavyD ho (by rw[hop];rfl) hw hdst hlt (fun a ha=>⟨0,by rw[hop];unfold stepOp;simp only[kindOf,evs_eq ha hx,h1]⟩) (h aw tl S' h2 h3).1 (h aw tl S' h2 h3).2
theorem rp_buildSliceB{Ts:List St}{l:List (Nat×Blk)}{gs:List Gr}(hF:Fresh S0)(hl:HoldG S0 Ts S l gs){t elem:TypeId}{len:Nat}{ps:Array (Nat×Operand)}{us:List (Nat×Value)}{c:List Value}(ho:nth pl q=some (o,j))(hop:o.op= .buildSlice t len ps)(hw:wantE ops L o=some true)(hd:o.dst=some d)(hn:Nat.blt d n=true)
  (hu:P.underlying t=some (.slice elem))(hx:evp L ps.toList=some us)(hc:bsF P elem len us=some c)
  (h:∀B S',HoldG S0 Ts S' ((B,.cells c elem true true [])::l) gs→RP P K n ops bef pl (q+1) (⟨j,o.op,undef,L,some (B,c,elem,true)⟩::E) ((d,.slice (some ⟨B,0,none⟩) len len)::L) S' Q):RP P K n ops bef pl q E L S Q :=
 rp_fresh ho (by rw[hop];rfl) hw hd hn (bs_new hop hu hx hc) (hl.keep.3 hF _ (Nat.le_refl _)) (h _ _ (hl.new _))
theorem rp_storeT{b off:Nat}{c c':List Value}{e:TypeId}{ks:List Nat}{t:TypeId}{x y:Operand}{v:Value}(r0:List (Nat×Blk))(hl:HoldG S0 [S0] S (r0++(b,.cells c e true true ks)::deadL e ks) [])(ho:nth pl q=some (o,j))(hop:o.op= .store t x y)(hw:wantE ops L o=some true)(hd:o.dst=none)(hx:evE L x=some (ptrTo b off))(hy:evE L y=some v)
  (hz:storeOk P t v=true)(hs:setN off (cellsL v) c=some c')
  (h:∀S',HoldG S0 [S0] S' (r0++[(b,.cells c' e true true [])]) []→Stays P n S' ((nth bef j).getD 0) E∧RP P K n ops bef pl (q+1) (left ((nth bef j).getD 0) E) L S' Q):RP P K n ops bef pl q E L S Q :=
 rp_store ho hop hw hd hx hy (store_rowK hz (hl.at_ b _ (List.mem_append.2 (.inr (List.mem_cons_self ..)))).1 hs) (h _ (hl.putT _)).1 (h _ (hl.putT _)).2
end
theorem HoldG.join{S1 S2:St}{l r:List (Nat×Blk)}(h0:HoldG S0 [S0] S1 l [])(h1:HoldG S1 [S1] S2 r []):HoldG S0 [S0] S2 (l++r) []:=by
 refine⟨h0.keep.trans h1.keep,?_,fun b x hx=>?_,fun T ht=>?_,fun g hg=>(List.not_mem_nil hg).elim⟩
 ·rw[List.map_append]
  refine List.nodup_append.2 ⟨h0.nd,h1.nd,fun a ha c hc=>?_⟩
  obtain⟨⟨a,x⟩,ha1,rfl⟩:=List.mem_map.1 ha
  obtain⟨⟨c,y⟩,hc1,rfl⟩:=List.mem_map.1 hc
  have e1:=(h0.at_ a x ha1).2.2
  have e2:=(h1.at_ c y hc1).2.1
  show a≠c
  omega
 ·rcases List.mem_append.1 hx with hx|hx
  ·obtain⟨e1,e2,e3⟩:=h0.at_ b x hx
   exact⟨(h1.keep.2 b e3).trans e1,e2,Nat.lt_of_lt_of_le e3 h1.keep.1⟩
  obtain⟨e1,e2,e3⟩:=h1.at_ b x hx
  exact⟨e1,Nat.le_trans h0.keep.1 e2,e3⟩
 rw[List.mem_singleton.1 ht]
 exact(h0.rk S0 (List.mem_cons_self ..)).trans (h1.rk S1 (List.mem_cons_self ..))
end Go.Cm
namespace Go.Cm
open Go
variable{P:Program}{K:Known}
section
variable{n:Nat}{L:Env}{S:St}{o:Oper}
end
section
variable{n:Nat}{ro:Option Nat}{L:Env}{S:St}{ds:List Deferred}{Q:Exit→Env→St→List Deferred→Prop}
end
section
variable{n:Nat}{L:Env}{S:St}{md:Mode}{Q:PostM}{ops:List Oper}{i d:Nat}{o:Oper}
end
end Go.Cm

/-
  The evaluator of the model, and that it is sound: part 4.
-/
import Derived.Laws.BitsLemmas
import Derived.Laws.Bits64
import Derived.Lib.LaidTab
import Derived.RowKit3
import Derived.Test.YtmfphenhpkgidaaGreatDoorCm3
namespace Go.Cm
open Go
theorem gh{α:Type}:∀(d k:Nat) (t:PT α d),(Qn d k:GW α d).f t=PT.at_ d t k
 |0,_,_=>rfl
 |d+1,k,t=>by
  have e:(Qn (d+1) k:GW α (d+1))=Bool.rec (motive:=fun _=>GW α _) (Zf (Qn d (Nat.div k 2))) (Ze (Qn d (Nat.div k 2))) (Nat.beq (Nat.mod k 2) 0):=rfl
  rw[e]
  have hL:∀w:GW α d,(Ze w).f t=w.f t.1:=fun w=>by cases w;rfl
  have hR:∀w:GW α d,(Zf w).f t=w.f t.2:=fun w=>by cases w;rfl
  cases hb:Nat.beq (Nat.mod k 2) 0 with
  |true =>
   rw[PT.Ob (show Nat.beq (k%2) 0=true from hb)]
   show(Ze (Qn d (Nat.div k 2))).f t=_
   rw[hL];exact gh d _ _
  |false =>
   rw[PT.Oa (show Nat.beq (k%2) 0=false from hb)]
   show(Zf (Qn d (Nat.div k 2))).f t=_
   rw[hR];exact gh d _ _
theorem Zx{α:Type}(d k:Nat)(t:PT α d):(Ov d k:GW α d).f t=t.get k:=by
 unfold Ov PT.get
 cases Nat.blt k (2 ^ d)with
 |true=>exact gh d k t
 |false=>rfl
theorem nt{α:Type}:∀(d k:Nat) (v:Option α) (t:PT α d),(R8 d k:SW α d).f v t=PT.Bb v d t k
 |0,_,_,_=>rfl
 |d+1,k,v,t=>by
  have e:(R8 (d+1) k:SW α (d+1))=Bool.rec (motive:=fun _=>SW α _) (cr (R8 d (k/2))) (cq (R8 d (k/2))) (Nat.beq (k%2) 0):=rfl
  rw[e]
  have hL:∀w:SW α d,(cq w).f v t=((w.f v t.1,t.2):PT α d×PT α d):=fun w=>by cases w;cases t;rfl
  have hR:∀w:SW α d,(cr w).f v t=((t.1,w.f v t.2):PT α d×PT α d):=fun w=>by cases w;cases t;rfl
  cases hb:Nat.beq (k%2) 0 with
  |true =>
   rw[PT.Yk hb]
   show(cq (R8 d (k/2))).f v t=_
   rw[hL,nt d]
  |false =>
   rw[PT.Yj hb]
   show(cr (R8 d (k/2))).f v t=_
   rw[hR,nt d]
theorem nk{α:Type}(d k:Nat)(v:Option α)(t:PT α d):(Pm d k:SW α d).f v t=t.set k v:=by
 unfold Pm PT.set
 cases Nat.blt k (2 ^ d)with
 |true=>exact nt d k v t
 |false=>rfl
theorem ABz{α:Type}{d:Nat}(w:SW α d)(v:Option α)(t:PT α d):eb w v t=w.f v t:=by cases w;rfl
theorem en{α:Type}:∀(d:Nat) (t:PT α d) (k:Nat),Tx d t k=PT.at_ d t k
 |0,_,_=>rfl
 |d+1,t,k=>by
  have e:Tx (d+1) t k=Bool.rec (motive:=fun _=>Option α) (Tx d t.2 (Nat.div k 2)) (Tx d t.1 (Nat.div k 2)) (Nat.beq (Nat.mod k 2) 0):=rfl
  rw[e]
  cases hb:Nat.beq (Nat.mod k 2) 0 with
  |true=>rw[PT.Ob (show Nat.beq (k%2) 0=true from hb)];exact en d _ _
  |false=>rw[PT.Oa (show Nat.beq (k%2) 0=false from hb)];exact en d _ _
theorem oc{α:Type}(v:Option α):∀(d:Nat) (t:PT α d) (k:Nat),QP v d t k=PT.Bb v d t k
 |0,_,_=>rfl
 |d+1,t,k=>by
  obtain⟨l,r⟩:=t
  have e:QP v (d+1) ((l,r):PT α d×PT α d) k=Bool.rec (motive:=fun _=>PT α d×PT α d) (l,QP v d r (Nat.div k 2)) (QP v d l (Nat.div k 2),r) (Nat.beq (Nat.mod k 2) 0):=rfl
  rw[e]
  cases hb:Nat.beq (Nat.mod k 2) 0 with
  |true =>
   refine Eq.trans ?_ (PT.Yk (show Nat.beq (k%2) 0=true from hb)).symm
   show(QP v d l (Nat.div k 2),r)=_
   rw[oc v d l];rfl
  |false =>
   refine Eq.trans ?_ (PT.Yj (show Nat.beq (k%2) 0=false from hb)).symm
   show(l,QP v d r (Nat.div k 2))=_
   rw[oc v d r];rfl
theorem aI(S:St)(b:Nat):Dm S b=S.get b:=by
 obtain⟨⟨t,more⟩,z⟩:=S
 show Bool.rec (motive:=fun _=>Option AF) (more b) (Tx 18 t b) (Nat.blt b 262144)=bif Nat.blt b 262144 then PT.at_ 18 t b else more b
 cases Nat.blt b 262144 with
 |true=>exact en 18 _ _
 |false=>rfl
theorem vM(h:Hp)(b:Nat)(x:Option AF):Iz h b x=Cr.set h b x:=by
 obtain⟨t,more⟩:=h
 show Bool.rec (motive:=fun _=>Hp) ⟨t,fun j=>bif Nat.beq j b then x else more j⟩ ⟨QP x 18 t b,more⟩ (Nat.blt b 262144)=bif Nat.blt b 262144 then(⟨PT.Bb x 18 t b,more⟩:Cr)else⟨t,fun j=>bif Nat.beq j b then x else more j⟩
 cases Nat.blt b 262144 with
 |true=>exact congrArg (fun y=>(⟨y,more⟩:Cr)) (oc x 18 _ _)
 |false=>rfl
theorem M4{α:Type}(o:Option α)(k:α→AY):HA o k=match o with|some v=>k v|none=>none:=by cases o<;>rfl
theorem Vs{α β:Type}(o:Option (α×β))(k:α→β→AY):Jw o k=match o with|some (a,b)=>k a b|none=>none:=by cases o<;>rfl
theorem ASm{α β γ:Type}(o:Option (α×β×γ))(k:α→β→γ→AY):ABN o k=match o with|some (a,b,c)=>k a b c|none=>none:=by cases o<;>rfl
theorem ef(v:Value):V7 v=match v with| .bool b=>some b|_=>none:=by cases v<;>rfl
theorem Y6(v:Value):Qc v=match v with| .int k n=>some (k,n)|_=>none:=by cases v<;>rfl
theorem eg(v:Value):NH v=match v with| .pointer a=>addrOf a|_=>none:=by cases v<;>rfl
theorem AB'(v:Value):qd v=match v with| .slice a n c=>n6 a n c|_=>none:=by cases v<;>rfl
theorem ACA(v:Value):qe v=match v with| .tuple l=>some l.toList|_=>none:=by cases v<;>rfl
theorem r8(v:Value):ZY v=BG v:=by cases v<;>rfl
theorem fm(x:Operand)(t:Tm):(Bz x).get t=Bw t x:=by
 cases x with
 |tmp i =>
  show(oU (Ov 8 i)).get t=_
  have h:∀w:GW Value 8,(oU w).get t=oZ (w.f t):=fun w=>by cases w;rfl
  rw[h,Zx]
  show oZ (t.get i)=match t.get i with|some v=>v|none=>undef
  cases t.get i<;>rfl
 |const v=>rfl
 |global g=>rfl
 |func f=>rfl
theorem WV(t:Tm):NV t=Bw t:=by
 funext x
 rw[←fm]
 show sw (Bz x) t=_
 cases Bz x;rfl
theorem ZJ(n:Nat)(t:Tm)(df:List Deferred):Ca.ev ⟨n,t,df⟩=Bw t:=by
 funext x;cases x<;>rfl
theorem HE{x:Operand}{g:Tm→Value}(h:Bz x=⟨g⟩)(t:Tm):g t=Bw t x:=by
 rw[←fm,h]
theorem AHt:∀j k:IntKind,XX j=XX k→j=k:=by intro j k h;cases j<;>cases k<;>first|rfl|(simp[XX]at h)
theorem AM8(j k:IntKind):cf j k=decide (j=k):=by
 unfold cf
 by_cases h:j=k
 ·subst h;simp
 rw[MP (fun e=>h (AHt _ _ e))];simp[h]
theorem AFI:∀a b:Int,WS a b=(a==b)
 | .ofNat a,.ofNat b=>by
  show Nat.beq a b=_
  by_cases h:a=b
  ·subst h;simp
  have h2:¬(Int.ofNat a=Int.ofNat b):=fun e=>h (Int.ofNat.inj e)
  rw[MP h,beq_eq_false_iff_ne.2 h2]
 | .negSucc a,.negSucc b=>by
  show Nat.beq a b=_
  by_cases h:a=b
  ·subst h;simp
  rw[MP h];simp[h]
 | .ofNat a,.negSucc b=>by simp[WS]
 | .negSucc a,.ofNat b=>by simp[WS]
theorem AIU:∀a b:Int,XZ a b=decide (a<b)
 | .ofNat a,.ofNat b=>by
  show Nat.blt a b=_
  rw[PT.Ga]
  refine decide_eq_decide.2 ?_
  show a<b↔(a:Int)<(b:Int)
  omega
 | .negSucc a,.negSucc b=>by
  show Nat.blt b a=_
  rw[PT.Ga]
  refine decide_eq_decide.2 ?_
  omega
 | .ofNat a,.negSucc b=>by
  show false=_
  symm;rw[decide_eq_false_iff_not]
  show ¬((a:Int)<Int.negSucc b)
  omega
 | .negSucc a,.ofNat b=>by
  show true=_
  symm;rw[decide_eq_true_eq]
  show Int.negSucc a<(b:Int)
  omega
theorem ez{α:Type}{c:Bool}{x y:α}(h:c=true→x=y):(bif c then x else y)=y:=by
 cases c with
 |false=>rfl
 |true=>exact h rfl
theorem ASo(k:IntKind)(n:Int):Ym k n=k.wrap n:=by
 unfold Ym
 split
 ·rename_i m
  refine ez fun h=>?_
  have h:=Gk h
  rw[IntKind.wrap_i64]
  show(m:Int)=_
  have e:(Int.ofNat m)=(m:Int):=rfl
  rw[e]
  omega
 ·rename_i m
  refine ez fun h=>?_
  have h:=Gk h
  rw[IntKind.wrap_i64]
  omega
 ·rename_i m
  refine ez fun h=>?_
  have h:=Gk h
  rw[IntKind.wrap_u64]
  have e:(Int.ofNat m)=(m:Int):=rfl
  rw[e]
  omega
 rfl
section
variable{P:Program}{ih:Ap}{t:Tm}{S:St}{ok:C6}{Ab:DK}
theorem JE{f:Operand→Value}{op:Op}(hk:kindOf op= .read):Lj (CG P ih f op S) ok Ab=match CF P f op S with|some v=>ok v S|none=>none:=by
 unfold CG
 rw[hk]
 simp only
 cases CF P f op S<;>rfl
theorem og{f:Operand→Value}{op:Op}(hk:kindOf op= .fresh):Lj (CG P ih f op S) ok Ab=match DY P f op S with|some (v,S')=>ok v S'|none=>none:=by
 unfold CG
 rw[hk]
 simp only
 cases DY P f op S<;>rfl
abbrev GV(P:Program)(op:Op)(w:Eb):Prop:= ∀(ih:Ap) (t:Tm) (S:St) (ok:C6) (Ab:DK),w.run ih t S ok Ab=Lj (CG P ih (Bw t) op S) ok Ab
theorem n7(op:Op):GV P op ⟨LY P op⟩:=fun _ _ _ _ _=>rfl
theorem xf(x:Operand)(ih:Ap)(t:Tm)(S:St)(ok:C6)(Ab:DK):(lj x).run ih t S ok Ab=ok (Bw t x) S:=by
 have hE:∀w:HX,(xe w).run ih t S ok Ab=ok (w.get t) S:=fun w=>by cases w;rfl
 cases x with
 |tmp i =>
  show(lh (Ov 8 i)).run ih t S ok Ab=_
  have hP:∀w:GW Value 8,(lh w).run ih t S ok Ab=Option.rec (motive:=fun _=>AY) (ok undef S) (fun v=>ok v S) (w.f t):=fun w=>by cases w;rfl
  rw[hP,Zx]
  show _=ok (match t.get i with|some v=>v|none=>undef) S
  cases t.get i<;>rfl
 |const v=>exact hE (Bz (.const v))
 |global g=>exact hE (Bz (.global g))
 |func f=>exact hE (Bz (.func f))
theorem AJM(c a b:Operand):GV P (.pick c a b) (yg (Bz c) (Bz a) (Bz b)):=by
 intro ih t S ok Ab
 rw[JE rfl]
 cases hc:Bz c with|mk f =>
 cases ha:Bz a with|mk g =>
 cases hb:Bz b with|mk h =>
 show mU f g h ih t S ok Ab=_
 unfold mU
 rw[M4,ef,HE hc,HE ha,HE hb]
 simp only[CF,FY]
 cases Bw t c<;>first
  |rfl
  |(rename_i x;cases x<;>rfl)
theorem AIP(ty:TypeId)(x:Operand):GV P (.load ty x) (lY P ty x):=by
 intro ih t S ok Ab
 rw[JE rfl]
 unfold lY
 cases hx:Bz x with|mk g =>
 have hg:=HE hx t
 simp only[CF,De]
 cases ha:Fv P ty with
 |none =>
  have e:ba (none:Option Bool) (A5 P ty) ⟨g⟩=⟨Jj⟩:=rfl
  rw[e]
  show none=_
  split
  ·rename_i v hv
   split at hv
   ·split at hv
    ·simp[Em,ha]at hv
    cases hv
   cases hv
  rfl
 |some y =>
  cases y with
  |true =>
   cases hn:A5 P ty with
   |none =>
    have e:ba (some true) none ⟨g⟩=⟨Jj⟩:=rfl
    rw[e]
    show none=_
    split
    ·rename_i v hv
     split at hv
     ·split at hv
      ·simp[Em,ha,hn]at hv
      cases hv
     cases hv
    rfl
   |some n =>
    show lW n g ih t S ok Ab=_
    unfold lW
    rw[Vs,eg,hg]
    cases Bw t x<;>try rfl
    rename_i a
    cases a with
    |none=>rfl
    |some a =>
     obtain⟨b,o,p⟩:=a
     cases p with
     |some p=>rfl
     |none =>
      simp only[addrOf]
      unfold xI
      rw[M4,aI]
      cases hb:S.get b with
      |none=>rfl
      |some B =>
       cases B<;>try rfl
       simp only[ZZ,M4,Em,ha,hn]
       cases takeN n (CH o _)<;>rfl
  |false =>
   have e:ba (some false) (A5 P ty) ⟨g⟩=⟨bZ g⟩:=by cases A5 P ty<;>rfl
   rw[e]
   show bZ g ih t S ok Ab=_
   unfold bZ
   rw[Vs,eg,hg]
   cases Bw t x<;>try rfl
   rename_i a
   cases a with
   |none=>rfl
   |some a =>
    obtain⟨b,o,p⟩:=a
    cases p with
    |some p=>rfl
    |none =>
     simp only[addrOf]
     unfold xK
     rw[M4,aI]
     cases hb:S.get b with
     |none=>rfl
     |some B =>
      cases B<;>try rfl
      simp only[ZZ,M4,Em,ha]
      cases nth _ o<;>rfl
theorem AJc{x:Value}{k:Nat→Nat→AY}(h:∀b o,x≠ .pointer (some ⟨b,o,none⟩)):Jw (NH x) k=none:=by
 rw[Vs,eg]
 cases x<;>try rfl
 rename_i a
 cases a with
 |none=>rfl
 |some a =>
  obtain⟨b,o,p⟩:=a
  cases p with
  |some p=>rfl
  |none=>exact absurd rfl (h b o)
theorem yx(b o:Nat)(k:Nat→Nat→AY):Jw (NH (.pointer (some ⟨b,o,none⟩))) k=k b o:=rfl
theorem AFS(s:TypeId)(x:Operand)(i:Nat):GV P (.fieldAddr s x i) (fx P s x i):=by
 intro ih t S ok Ab
 rw[JE rfl]
 have Ek:∀(h:H4 P s (Bw t x) i=none),(Jj ih t S ok Ab)=match CF P (Bw t) (.fieldAddr s x i) S with|some v=>ok v S|none=>none:=by
  intro h;simp only[CF,FY,h];rfl
 unfold fx
 split
 ·rename_i fields hu
  split
  ·rename_i f hf
   split
   ·rename_i m A4
    cases hx:Bz x with|mk g =>
    have hg:=HE hx t
    show fw f.offset g ih t S ok Ab=_
    unfold fw
    rw[hg]
    simp only[CF,FY,H4,hu]
    cases hv:Bw t x
    case pointer a =>
     cases a with
     |none=>rfl
     |some a =>
      obtain⟨b,o,p⟩:=a
      cases p with
      |some p=>rfl
      |none=>simp only[hf,A4];rfl
    all_goals rfl
   rename_i Ac
   refine Ek ?_
   simp only[H4,hu]
   split
   ·rename_i h1 h2;cases h1
    simp only[hf]
    first
     |done
     |(cases hm:A5 P f.type with
      |none=>rfl
      |some m =>
       cases m with
       |zero=>rfl
       |succ m=>exact absurd hm (Ac m))
   rfl
  rename_i hf
  refine Ek ?_
  simp only[H4,hu]
  split
  ·rename_i h1 h2;cases h1;simp[hf]
  rfl
 rename_i Ac
 refine Ek ?_
 unfold H4
 split
 ·rename_i h1 _;exact absurd h1 (Ac _)
 rfl
end
section
variable{P:Program}
theorem ve(n:Int)(len:Nat)(k:Nat→AY):jk n len k=if 0≤n∧n<len then k n.toNat else none:=by
 cases n with
 |ofNat i =>
  show Bool.rec (motive:=fun _=>AY) none (k i) (Nat.blt i len)=_
  rw[PT.Ga]
  by_cases h:i<len
  ·rw[decide_eq_true h,if_pos ⟨by show(0:Int)≤(i:Int);omega,by show(i:Int)<_;omega⟩];rfl
  rw[decide_eq_false h,if_neg (fun e=>h (by have:(i:Int)<_:=e.2;omega))]
 |negSucc i =>
  show none=_
  rw[if_neg (fun e=>by have:=e.1;omega)]
theorem AHY(ty:TypeId)(x i:Operand):GV P (.indexAddr ty x i) (jl P ty x i):=by
 intro ih t S ok Ab
 rw[JE rfl]
 have Ek:∀(h:G5 P ty (Bw t x) (Bw t i)=none),(Jj ih t S ok Ab)=match CF P (Bw t) (.indexAddr ty x i) S with|some v=>ok v S|none=>none:=by
  intro h;simp only[CF,FY,h];rfl
 unfold jl
 split
 ·rename_i len elem hu
  split
  ·rename_i n hn
   cases hx:Bz x with|mk g =>
   cases hi:Bz i with|mk h =>
   show jm len n g h ih t S ok Ab=_
   unfold jm
   rw[HE hx,HE hi,Vs,Y6]
   simp only[CF,FY,G5,hu]
   cases Bw t i<;>try rfl
   rename_i k m
   simp only
   cases hv:Bw t x
   case pointer a =>
    cases a with
    |none=>rfl
    |some a =>
     obtain⟨b,o,p⟩:=a
     cases p with
     |some p=>rfl
     |none =>
      rw[yx,ve]
      simp only[hn]
      by_cases hc:0≤m∧m<len
      ·rw[if_pos hc,if_pos hc];rfl
      rw[if_neg hc,if_neg hc]
   all_goals rfl
  rename_i hn
  refine Ek ?_
  simp only[G5,hu]
  split
  ·split
   ·rename_i h1 _;cases h1;simp[hn]
   ·rename_i h1 _;cases h1
   rfl
  rfl
 ·rename_i elem hu
  split
  ·rename_i n hn
   cases hx:Bz x with|mk g =>
   cases hi:Bz i with|mk h =>
   show jn n g h ih t S ok Ab=_
   unfold jn
   rw[HE hx,HE hi,Vs,Y6]
   simp only[CF,FY,G5,hu]
   cases Bw t i<;>try rfl
   rename_i k m
   simp only[ASm,AB']
   cases hv:Bw t x
   case slice a len cap =>
    cases a with
    |none=>rfl
    |some a =>
     obtain⟨b,o,p⟩:=a
     cases p with
     |some p=>rfl
     |none =>
      simp only[n6,ve,hn]
      by_cases hc:0≤m∧m<len
      ·rw[if_pos hc,if_pos hc];rfl
      rw[if_neg hc,if_neg hc]
   all_goals rfl
  rename_i hn
  refine Ek ?_
  simp only[G5,hu]
  split
  ·split
   ·rename_i h1 _;cases h1
   ·rename_i h1 _;cases h1;simp[hn]
   rfl
  rfl
 rename_i h1 h2
 refine Ek ?_
 unfold G5
 split
 ·split
  ·rename_i h3 _;exact absurd h3 (h1 _ _)
  ·rename_i h3 _;exact absurd h3 (h2 _)
  rfl
 rfl
theorem AI6(ty:TypeId)(x:Operand):GV P (.unOp .not ty x) (x8 (Bz x)):=by
 intro ih t S ok Ab
 rw[JE rfl]
 cases hx:Bz x with|mk g =>
 show lr g ih t S ok Ab=_
 unfold lr
 rw[M4,ef,HE hx]
 simp only[CF,FY]
 cases Bw t x<;>rfl
theorem AFQ(x:Operand)(i:Nat):GV P (.extract x i) (tC i (Bz x)):=by
 intro ih t S ok Ab
 rw[JE rfl]
 cases hx:Bz x with|mk g =>
 show fu i g ih t S ok Ab=_
 unfold fu
 rw[M4,ACA,HE hx]
 simp only[CF,FY]
 cases Bw t x<;>try rfl
 simp only[M4]
 cases nth _ i<;>rfl
theorem xl(x:AF)(S:St)(ok:C6):Xc x S ok=ok (ptrTo S.size 0) ⟨S.heap.set S.size (some x),S.size+1⟩:=by
 unfold Xc
 have h:∀n,newAt S.heap x ok n=ok (ptrTo n 0) ⟨S.heap.set n (some x),n+1⟩:=fun n=>by
  unfold newAt;rw[vM]
 cases hs:S.size with
 |zero=>exact h 0
 |succ m=>exact h (m+1)
theorem ABv(e:TypeId):GV P (.alloc e) (qX (zeroOf P e) e):=by
 intro ih t S ok Ab
 rw[og rfl]
 simp only[DY]
 cases zeroOf P e with
 |none=>rfl
 |some z =>
  show Xc _ S ok=_
  rw[xl];rfl
theorem AEB(e:TypeId)(x:Operand):GV P (.box e x) (rW e (Bz x)):=by
 intro ih t S ok Ab
 rw[og rfl]
 cases hx:Bz x with|mk g =>
 show fE e g ih t S ok Ab=_
 unfold fE
 rw[xl,r8,HE hx]
 rfl
theorem eD{f:Option Value}{S:St}{ok:C6}:(HA f fun v=>ok v S)=match f with|some v=>ok v S|none=>none:=by cases f<;>rfl
theorem AIY(ρ:Operand→Value)(l:List (Nat×Operand)):bg ρ l=Jp ρ l:=by
 induction l with
 |nil=>rfl
 |cons x r ih=>simp only[bg,Jp,List.map_cons]at *;rw[ih]
theorem AIb(ρ:Operand→Value)(l:List Operand):bh ρ l=l.map ρ:=by
 induction l with
 |nil=>rfl
 |cons x r ih=>simp only[bh,List.map_cons,ih]
theorem cQ{op:Op}{f:(Operand→Value)→Option Value}(hk:kindOf op= .read)(h:∀ρ S,CF P ρ op S=f ρ):GV P op ⟨X9 f⟩:=by
 intro ih t S ok Ab
 rw[JE hk,h]
 show(HA (f (NV t)) fun v=>ok v S)=_
 rw[WV]
 first|(rw[eD];done)|(rw[eD];cases f (Bw t)<;>rfl)
theorem zH{op:Op}{f:(Operand→Value)→St→Option Value}(hk:kindOf op= .read)(h:∀ρ S,CF P ρ op S=f ρ S):GV P op ⟨mw f⟩:=by
 intro ih t S ok Ab
 rw[JE hk,h]
 show(HA (f (NV t) S) fun v=>ok v S)=_
 rw[WV]
 first|(rw[eD];done)|(rw[eD];cases f (Bw t) S<;>rfl)
theorem xm{op:Op}{f:(Operand→Value)→St→Option (Value×St)}(h:∀ih ρ S,CG P ih ρ op S=match f ρ S with|some (v,S')=>some (.val v,S')|none=>none):GV P op ⟨bn f⟩:=by
 intro ih t S ok Ab
 rw[h]
 show Jw (f (NV t) S) ok=_
 rw[WV,Vs]
 cases f (Bw t) S<;>rfl
theorem ADQ(op:BinOp)(ty:TypeId)(x y:Operand)(yt:TypeId):GV P (.binOp op ty x y yt) (e6 P op ty x y yt):=by
 intro ih t S ok Ab
 unfold e6
 cases hx:Bz x with|mk g =>
 cases hy:Bz y with|mk h =>
 have hg:=HE hx t
 have hh:=HE hy t
 cases hf:Y' op with
 |none=>rfl
 |some f =>
  show qo f (LY P (.binOp op ty x y yt) ih t S ok Ab) S ok (Qc (g t)) (Qc (h t))=_
  rw[hg,hh,Y6,Y6]
  have aV:LY P (.binOp op ty x y yt) ih t S ok Ab=Lj (CG P ih (Bw t) (.binOp op ty x y yt) S) ok Ab:=rfl
  rw[←aV]
  cases XK:Bw t x<;>try rfl
  rename_i k a
  cases jZ:Bw t y<;>try rfl
  rename_i k' b
  show Bool.rec (motive:=fun _=>AY) none (ok (f k a b) S) (cf k k')=_
  rw[aV,JE rfl,AM8]
  simp only[CF,FY,XK,jZ]
  by_cases hk:k=k'
  ·subst hk
   rw[decide_eq_true rfl]
   show ok (f k a b) S=_
   cases op<;>simp only[Y',reduceCtorEq,Option.some.injEq]at hf<;>subst hf <;>
    simp only[Fy,if_true,Ui,qQ,AAv,xi,su,xk,xO,w9,te,ta,ASo,AFI,AIU]<;>first
     |rfl
     |(congr 2;simp only[bne];done)
     |(congr 2;rw[←decide_not];exact decide_eq_decide.2 (by omega))
  rw[decide_eq_false hk]
  show none=_
  cases op<;>simp only[Y',reduceCtorEq]at hf<;>simp only[Fy,if_neg hk]
theorem AO5(ty:TypeId)(a x:Operand):GV P (.store ty a x) (AAr (A5 P ty) (LY P (.store ty a x)) (Bz a) (Bz x)):=by
 intro ih t S ok Ab
 have BL:∀ρ,CG P ih ρ (.store ty a x) S=match Fs P ty (ρ a) (ρ x) S with|some S'=>some (.val undef,S')|none=>none:=by
  intro ρ
  simp only[CG,kindOf,KH]
  cases Fs P ty (ρ a) (ρ x) S<;>rfl
 cases hn:A5 P ty with
 |none =>
  rw[BL]
  have:Fs P ty (Bw t a) (Bw t x) S=none:=by
   unfold Fs
   split
   ·simp[hn]
   rfl
  rw[this]
  rfl
 |some n =>
  cases ha:Bz a with|mk g =>
  cases hx:Bz x with|mk h =>
  show(Jw (NH (g t)) fun b o=>oN n S b o (ZY (h t)) (LY P (.store ty a x) ih t S ok Ab) ok)=_
  rw[HE ha,HE hx,r8]
  by_cases hp:∃b o,Bw t a= .pointer (some ⟨b,o,none⟩)
  ·obtain⟨b,o,hp⟩:=hp
   rw[hp,yx]
   unfold oN
   have aV:LY P (.store ty a x) ih t S ok Ab=Lj (CG P ih (Bw t) (.store ty a x) S) ok Ab:=rfl
   cases hc:(Nat.beq (BG (Bw t x)).length n&&(BG (Bw t x)).all D9&&Nat.blt 0 (BG (Bw t x)).length)with
   |false =>
    show none=_
    rw[BL,hp]
    simp only[Fs,hn]
    cases hb:Nat.beq (BG (Bw t x)).length n with
    |false=>rfl
    |true =>
     rw[hb,Bool.true_and]at hc
     simp only[cond_true,Jx]
     split
     ·rename_i hx;split at hx
      ·simp only[hc,cond_false]at hx;cases hx
      cases hx
     rfl
   |true =>
    show px S b o _ _ ok (Dm S b)=_
    rw[aI]
    simp only[Bool.and_eq_true]at hc
    have MG:((BG (Bw t x)).all D9&&Nat.blt 0 (BG (Bw t x)).length)=true:=by rw[hc.1.2,hc.2];rfl
    unfold px
    split
    ·rename_i c e row hb
     rw[BL,hp]
     simp only[Fs,hn,hc.1.1,cond_true,Jx,hb,MG,M4]
     cases Bq o (BG (Bw t x)) c with
     |none=>rfl
     |some c' =>
      simp only[vM]
      rfl
    exact aV
  have Ac:∀b o,Bw t a≠ .pointer (some ⟨b,o,none⟩):=fun b o e=>hp ⟨b,o,e⟩
  rw[AJc Ac,BL]
  have:Fs P ty (Bw t a) (Bw t x) S=none:=by
   unfold Fs
   split
   ·rename_i b o he;exact absurd he (Ac b o)
   rfl
  rw[this];rfl
theorem AB8(l:List Operand)(t:Tm):V6 (We l) t=l.map (Bw t):=by
 induction l with
 |nil=>rfl
 |cons x r ih=>simp only[We,V6,List.map_cons,ih,fm]
theorem AE'{r:Option (Ending×St)}{ok:C6}{Ab:DK}:fe r ok Ab=Lj (match r with
  |some (.returned v,S')=>some (QX.val v,S')
  |some (.panicked ch,S')=>some (.Ab ch,S')
  |_=>none) ok Ab:=by
 cases r with
 |none=>rfl
 |some x=>obtain⟨e,S⟩:=x;cases e<;>rfl
theorem rv(c:Call)(hb:∀b,c.callee≠ .builtin b):GV P (.call c) (fJ P c (.call c)):=by
 intro ih t S ok Ab
 unfold fJ
 split
 ·rename_i f hc
  show fe (ih.call (.fn (.func f) #[]) (V6 (We c.args.toList) t) S) ok Ab=_
  rw[AE',AB8]
  obtain⟨callee,args,ts⟩:=c
  simp only at hc
  subst hc
  rfl
 rfl
theorem AEa(c:Call):GV P (.call c) (ru P c (.call c)):=by
 obtain⟨callee,args,ts⟩:=c
 cases callee with
 |invoke r name=>exact rv _ (fun b=>by simp)
 |value f=>exact rv _ (fun b=>by simp)
 |builtin b =>
  show GV P _ (fG P b args.toList ts.toList (.call ⟨.builtin b,args,ts⟩))
  have Cg:kindOf (.call ⟨.builtin b,args,ts⟩)= .Fk→GV P (.call ⟨.builtin b,args,ts⟩) ⟨bn (fF P b ts.toList args.toList)⟩:=by
   intro hk
   refine xm fun ih ρ S=>?_
   unfold CG
   rw[hk]
   simp only[fF,AIb]
   cases ER P b ts.toList (List.map ρ args.toList) S<;>rfl
  cases b
  case len =>
   unfold fG
   split
   ·rename_i x t rest _ ha ht
    refine zH rfl fun ρ S=>?_
    simp only[CF,ha,ht]
    rfl
   ·exact n7 _
   rename_i h1 h2;exact absurd rfl h1
  all_goals exact Cg rfl
theorem U2(op:Op):GV P op (Jm P op):=by
 cases op
 case move x=>intro ih t S ok Ab;rw[JE rfl];exact xf x ih t S ok Ab
 case assign x=>intro ih t S ok Ab;rw[JE rfl];exact xf x ih t S ok Ab
 case pick c a b=>exact AJM c a b
 case load t x=>exact AIP t x
 case fieldAddr s x i=>exact AFS s x i
 case indexAddr t x i=>exact AHY t x i
 case binOp o t x y yt=>exact ADQ o t x y yt
 case unOp o t x=>cases o<;>first|exact AI6 t x|exact n7 _
 case extract x i=>exact AFQ x i
 case alloc e=>exact ABv e
 case box e x=>exact AEB e x
 case store t a x=>exact AO5 t a x
 case build t parts=>exact cQ rfl (fun ρ S=>by simp only[CF,FY,rY,AIY])
 case nilCheck x=>exact cQ rfl (fun ρ S=>rfl)
 case field t x i=>exact cQ rfl (fun ρ S=>rfl)
 case index t x i=>exact cQ rfl (fun ρ S=>rfl)
 case slice t x lo hi mx=>exact zH rfl (fun ρ S=>rfl)
 case buildSlice t len parts=>exact xm (fun ih ρ S=>rfl)
 case call c=>exact AEa c
 all_goals exact n7 _
end
section
variable{P:Program}
def LW(n:Nat)(t:Tm)(dst:Option Tmp)(v:Value)(k:Tm→AY):AY:=match Ca.put ⟨n,t,[]⟩ dst v with
 |some a'=>k a'.t
 |none=>none
theorem OC(n:Nat)(t:Tm)(df:List Deferred)(dst:Option Tmp)(v:Value)(k:Ca→AY):(match Ca.put ⟨n,t,df⟩ dst v with
 |some a'=>k a'
 |none=>none)=LW n t dst v fun t'=>k ⟨n,t',df⟩:=by
 unfold LW Ca.put
 cases dst with
 |none=>rfl
 |some d =>
  simp only
  cases Nat.blt d n<;>rfl
theorem yi(dst:Option Tmp)(f:Hx)(ih:Ap)(n:Nat)(t:Tm)(S:St)(k:Tm→St→AY)(Ab:DK) :
  (Pa dst f).run ih n t S k Ab=f ih t S (fun v S'=>LW n t dst v fun t'=>k t' S') Ab:=by
 cases dst with
 |none=>rfl
 |some d =>
  unfold Pa
  simp only
  cases hs:(Pm 8 d:SW Value 8)with|mk s =>
  show f ih t S (mh s d n t k) Ab=_
  congr 1
  funext v S'
  have h:=nk 8 d (some v) t
  rw[hs]at h
  simp only at h
  unfold mh LW Ca.put
  rw[h]
  simp only
  cases Nat.blt d n<;>rfl
theorem AJT(dst:Option Tmp)(w:Eb):cI dst w=Pa dst w.run:=by cases w;rfl
theorem AF4(g:GW Value 8)(w:Bool)(y z:Ie)(ih:Ap)(n:Nat)(t:Tm)(S:St)(k:Tm→St→AY)(Ab:DK) :
  (tf g w y z).run ih n t S k Ab=bif PH (g.f t) w then y.run ih n t S k Ab else z.run ih n t S k Ab:=by
 cases g;cases y;cases z
 rename_i g y z
 show Bool.rec (motive:=fun _=>AY) (z ih n t S k Ab) (y ih n t S k Ab) (PH (g t) w)=_
 cases PH (g t) w<;>rfl
theorem AO2(full:List Oper)(o:Oper)(ih:Ap)(n:Nat)(t:Tm)(df:List Deferred)(S:St)(k:Tm→St→AY)(Ab:DK) :
  (dj P full o).run ih n t S k Ab=bif Du full ⟨n,t,df⟩ o then Lj (CG P ih (Bw t) o.op S) (fun v S'=>LW n t o.dst v fun t'=>k t' S') Ab else LW n t o.dst undef fun t'=>k t' S:=by
 have Dp:(cI o.dst (Jm P o.op)).run ih n t S k Ab=Lj (CG P ih (Bw t) o.op S) (fun v S'=>LW n t o.dst v fun t'=>k t' S') Ab:=by
  rw[AJT,yi,U2]
 have XJ:(Pa o.dst Li).run ih n t S k Ab=LW n t o.dst undef fun t'=>k t' S:=by
  rw[yi];rfl
 unfold dj Du
 cases hg:o.guard with
 |none=>exact Dp
 |some q =>
  obtain⟨j,w⟩:=q
  simp only
  cases hj:nth full j with
  |none=>exact XJ
  |some oj =>
   simp only
   cases hd:oj.dst with
   |none=>exact XJ
   |some d =>
    simp only
    rw[AF4,Zx,Dp,XJ]
    rfl
theorem zV(full:List Oper)(ih:Ap)(n:Nat)(df:List Deferred):∀(l:List Oper) (t:Tm) (S:St),YH ih n df (WH P full l) t S=BT P ih full l ⟨n,t,df⟩ S
 | [],t,S=>rfl
 |o::l,t,S=>by
  have e1:WH P full (o::l)=dj P full o::WH P full l:=rfl
  have e2:∀(w:Ie) (r:List Ie),YH ih n df (w::r) t S=w.run ih n t S (YH ih n df r) (yc n t df):=fun w r=>by cases w;rfl
  rw[e1,e2,AO2 (df:=df)]
  unfold BT
  have hk:YH ih n df (WH P full l)=fun t S=>BT P ih full l ⟨n,t,df⟩ S:=by funext t S;exact zV full ih n df l t S
  rw[hk,ZJ]
  cases Du full ⟨n,t,df⟩ o with
  |false =>
   simp only[cond_false]
   exact(OC n t df o.dst undef (fun a=>BT P ih full l a S)).symm
  |true =>
   simp only[cond_true]
   cases CG P ih (Bw t) o.op S with
   |none=>rfl
   |some x =>
    obtain⟨r,S'⟩:=x
    cases r with
    |val v =>
     simp only[Lj]
     exact(OC n t df o.dst v (fun a=>BT P ih full l a S')).symm
    |Ab ch=>rfl
def L6(P:Program)(c:DD)(S:St)(k:AY):AY:=bif c.ok P S then k else none
def ET(P:Program)(Ah:List (Nat×DD)):List GU:=Ah.map fun x=>(x.1,L6 P x.2)
theorem AIQ(op:Op)(hk:kindOf op= .read)(ih:Ap)(n:Nat)(t:Tm)(df:List Deferred)(v:Value):bd (Jm P op).run ih t v=L6 P (.read ⟨n,t,df⟩ op v):=by
 funext S k
 unfold bd L6
 rw[U2,JE hk]
 simp only[DD.ok,ZJ]
 cases CF P (Bw t) op S with
 |none=>rfl
 |some w =>
  simp only
  show Bool.rec (motive:=fun _=>AY) none k (CP 100000 v w)=_
  cases CP 100000 v w<;>rfl
theorem AFm(c:DD):Zu P c=L6 P c:=by
 funext S k
 unfold Zu L6
 cases DD.ok P S c<;>rfl
theorem AHr(b:Nat)(Ah:List (Nat×DD)):PO b (ET P Ah)=ET P (Ah.filter fun x=>!b.testBit x.1):=by
 induction Ah with
 |nil=>rfl
 |cons x r ih =>
  have e:ET P (x::r)=(x.1,L6 P x.2)::ET P r:=rfl
  rw[e]
  unfold PO
  simp only[List.filter_cons]
  cases hb:b.testBit x.1 with
  |true=>simpa using ih
  |false=>simp only[cond_false,Bool.not_false,if_true];rw[ih];rfl
theorem ABt(S:St)(k:AY)(Ah:List (Nat×DD)):V5 S k (ET P Ah)=bif Ah.all (fun x=>x.2.ok P S)then k else none:=by
 induction Ah with
 |nil=>rfl
 |cons x r ih =>
  have e:V5 S k (ET P (x::r))=L6 P x.2 S (V5 S k (ET P r)):=rfl
  rw[e,ih]
  unfold L6
  simp only[List.all_cons]
  cases x.2.ok P S<;>simp
theorem YA(dst:Option Tmp)(n:Nat)(t:Tm)(v:Value)(k:Tm→AY):G7 dst n t v k=LW n t dst v k:=by
 cases dst with
 |none=>rfl
 |some d =>
  unfold G7
  simp only
  cases hs:(Pm 8 d:SW Value 8)with|mk s =>
  have h:=nk 8 d (some v) t
  rw[hs]at h
  simp only at h
  show mg s d n t v k=_
  unfold mg LW Ca.put
  rw[h]
  simp only
  cases Nat.blt d n<;>rfl
theorem AM1(w:Lo)(r:List Lo)(ih:Ap)(n:Nat)(df:List Deferred)(e:List GU)(t:Tm)(S:St):YJ ih n df (w::r) e t S=w.run ih n df t S e (YJ ih n df r):=by cases w;rfl
theorem zX(full:List Oper)(AJ:List Nat)(ih:Ap)(n:Nat)(df:List Deferred):∀(l:List (Oper×Nat)) (Ah:List (Nat×DD)) (t:Tm) (S:St),
  YJ ih n df (WI P full AJ l) (ET P Ah) t S=DT P ih full AJ l Ah ⟨n,t,df⟩ S
 | [],Ah,t,S=>rfl
 |(o,i)::l,Ah,t,S=>by
  have e1:WI P full AJ ((o,i)::l)=cH P full ((nth AJ i).getD 0) o i (Jm P o.op)::WI P full AJ l:=rfl
  rw[e1,AM1]
  generalize hr:YJ ih n df (WI P full AJ l)=rest
  have Hl:∀Ah t S,rest (ET P Ah) t S=DT P ih full AJ l Ah ⟨n,t,df⟩ S:=fun Ah t S=>by rw[←hr];exact zX full AJ ih n df l Ah t S
  have XJ:PY (G7 o.dst) Li ih n df t S (ET P Ah) rest=LW n t o.dst undef fun t'=>DT P ih full AJ l Ah ⟨n,t',df⟩ S:=by
   show G7 o.dst n t undef (fun t'=>rest (ET P Ah) t' S)=_
   rw[YA]
   simp only[Hl]
  have AV:Rt P ((nth AJ i).getD 0) o i (Jm P o.op).run ih n df t S (ET P Ah) rest=(match kindOf o.op with
   | .read=>match CF P (Bw t) o.op S with
    |some v=>match Ca.put ⟨n,t,df⟩ o.dst v with
     |some a'=>DT P ih full AJ l (bif looks o.op then(i,.read ⟨n,t,df⟩ o.op v)::Ah else Ah) a' S
     |none=>none
    |none=>none
   | .fresh=>match DY P (Bw t) o.op S with
    |some (v,S')=>match Ca.put ⟨n,t,df⟩ o.dst v,Kx S' S.size,S.get S.size with
     |some a',some c,none=>DT P ih full AJ l ((i,c)::Ah) a' S'
     |_,_,_=>none
    |none=>none
   | .Fk=>match CG P ih (Bw t) o.op S with
    |some (.val v,S')=>match Ca.put ⟨n,t,df⟩ o.dst v with
     |some a' =>
      let rest:=Ah.filter fun x=>!((nth AJ i).getD 0).testBit x.1
      bif rest.all fun x=>x.2.ok P S' then DT P ih full AJ l rest a' S' else none
     |none=>none
    |_=>none):=by
   unfold Rt
   cases hk:kindOf o.op with
   |read =>
    simp only
    cases hl:looks o.op with
    |false =>
     show(Jm P o.op).run ih t S (fun v S'=>G7 o.dst n t v fun t'=>rest (ET P Ah) t' S') N'=_
     rw[U2,JE hk]
     cases CF P (Bw t) o.op S with
     |none=>rfl
     |some v =>
      simp only[YA,Hl,cond_false]
      exact(OC n t df o.dst v (fun a=>DT P ih full AJ l Ah a S)).symm
    |true =>
     show(Jm P o.op).run ih t S (fun v S'=>G7 o.dst n t v fun t'=>rest ((i,bd (Jm P o.op).run ih t v)::ET P Ah) t' S') N'=_
     rw[U2,JE hk]
     cases CF P (Bw t) o.op S with
     |none=>rfl
     |some v =>
      simp only[YA,AIQ o.op hk ih n t df v,cond_true]
      have e2:(i,L6 P (.read ⟨n,t,df⟩ o.op v))::ET P Ah=ET P ((i,.read ⟨n,t,df⟩ o.op v)::Ah):=rfl
      simp only[e2,Hl]
      exact(OC n t df o.dst v (fun a=>DT P ih full AJ l ((i,.read ⟨n,t,df⟩ o.op v)::Ah) a S)).symm
   |fresh =>
    simp only
    show(Jm P o.op).run ih t S (fun v S'=>G7 o.dst n t v fun t'=>HA (Kx S' S.size) fun c=>Option.rec (motive:=fun _=>AY) (rest ((i,Zu P c)::ET P Ah) t' S') (fun _=>none) (Dm S S.size)) N'=_
    rw[U2,og hk]
    cases DY P (Bw t) o.op S with
    |none=>rfl
    |some x =>
     obtain⟨v,S'⟩:=x
     simp only[YA,AFm,aI]
     have e2:∀c,(i,L6 P c)::ET P Ah=ET P ((i,c)::Ah):=fun _=>rfl
     simp only[e2,Hl]
     cases Cz:Kx S' S.size with
     |none =>
      refine(OC n t df o.dst v (fun a=>none)).symm.trans ?_
      cases Ca.put ⟨n,t,df⟩ o.dst v<;>rfl
     |some c =>
      cases hg:S.get S.size with
      |none =>
       refine(OC n t df o.dst v (fun a=>DT P ih full AJ l ((i,c)::Ah) a S')).symm.trans ?_
       cases Ca.put ⟨n,t,df⟩ o.dst v<;>rfl
      |some B =>
       refine(OC n t df o.dst v (fun a=>none)).symm.trans ?_
       cases Ca.put ⟨n,t,df⟩ o.dst v<;>rfl
   |Fk =>
    simp only
    show(Jm P o.op).run ih t S (fun v S'=>G7 o.dst n t v fun t'=>V5 S' (rest (PO ((nth AJ i).getD 0) (ET P Ah)) t' S') (PO ((nth AJ i).getD 0) (ET P Ah))) N'=_
    rw[U2]
    cases CG P ih (Bw t) o.op S with
    |none=>rfl
    |some x =>
     obtain⟨r,S'⟩:=x
     cases r with
     |Ab ch=>rfl
     |val v =>
      simp only[Lj,YA,AHr,ABt,Hl]
      exact(OC n t df o.dst v (fun a=>bif (Ah.filter fun x=>!((nth AJ i).getD 0).testBit x.1).all (fun x=>x.2.ok P S')then DT P ih full AJ l (Ah.filter fun x=>!((nth AJ i).getD 0).testBit x.1) a S' else none)).symm
  have Dq:∀w:Eb,(cH P full ((nth AJ i).getD 0) o i w).run ih n df t S (ET P Ah) rest =
    bif Du full ⟨n,t,df⟩ o then Rt P ((nth AJ i).getD 0) o i w.run ih n df t S (ET P Ah) rest else PY (G7 o.dst) Li ih n df t S (ET P Ah) rest:=by
   intro w
   cases w with|mk f =>
   unfold cH Du
   simp only
   cases hg:o.guard with
   |none=>rfl
   |some q =>
    obtain⟨j,w⟩:=q
    simp only
    cases hj:nth full j with
    |none=>rfl
    |some oj =>
     simp only
     cases hd:oj.dst with
     |none=>rfl
     |some d =>
      simp only
      have hG:∀g:GW Value 8,(yh g w (Rt P ((nth AJ i).getD 0) o i f) (PY (G7 o.dst) Li)).run ih n df t S (ET P Ah) rest =
        bif PH (g.f t) w then Rt P ((nth AJ i).getD 0) o i f ih n df t S (ET P Ah) rest else PY (G7 o.dst) Li ih n df t S (ET P Ah) rest:=by
       intro g
       cases g with|mk g =>
       show Bool.rec (motive:=fun _=>AY) _ _ (PH (g t) w)=_
       cases hb:PH (g t) w<;>rfl
      rw[hG,Zx]
      rfl
  rw[Dq,AV,XJ]
  conv=>rhs;unfold DT
  simp only[ZJ]
  cases Du full ⟨n,t,df⟩ o with
  |false =>
   simp only[cond_false]
   exact(OC n t df o.dst undef (fun a=>DT P ih full AJ l Ah a S)).symm
  |true=>rfl
theorem AEv(ih:Ap)(ro:Option Nat)(code:Code)(a:Ca)(S:St):(Zd P code).run ih ro a S=Bx P ih ro code a S:=by
 cases code with
 |skip=>rfl
 |label l=>rfl
 |exit id=>rfl
 |ret=>rfl
 |seq x y=>rfl
 |loop c=>rfl
 |block id c=>rfl
 |scope c=>rfl
 |rangeFunc f ps x y=>rfl
 |goto l=>rfl
 |refuse r=>rfl
 |cond c x y =>
  show(sI (Bz c) x y).run ih ro a S=_
  cases hc:Bz c with|mk g =>
  show fT (ih.exec ro x a S) (ih.exec ro y a S) (V7 (g a.t))=_
  unfold fT
  obtain⟨n,t,df⟩:=a
  rw[M4,ef,HE hc]
  simp only[Bx,ZJ]
  cases Bw t c<;>try rfl
  rename_i b
  cases b<;>rfl
 |region id ops draw =>
  show(m7 P ops.toList draw).run ih ro a S=_
  unfold m7
  simp only[Bx]
  cases D' P ops.toList with
  |false=>rfl
  |true =>
   simp only[cond_true]
   obtain⟨n,t,df⟩:=a
   cases draw with
   |false=>exact zV _ _ _ _ _ _ _
   |true =>
    show(sX P ops.toList (Rx ops.toList)).run ih ro ⟨n,t,df⟩ S=OH P ih ops.toList ⟨n,t,df⟩ S
    unfold OH
    cases Rx ops.toList with
    |none=>rfl
    |some x =>
     obtain⟨bf,pl⟩:=x
     exact zX ops.toList bf ih n df pl [] t S
theorem AFM(ih:Ap):fp P ih=Bx P ih:=by
 funext ro code a S
 rw[←AEv]
 show sy (Zd P code) ih ro a S=_
 cases Zd P code;rfl
theorem zo:∀(l:List Value) (i:Nat) (t:Tm),setArgs i l t=PT.ofList i t l
 | [],i,t=>rfl
 |v::l,i,t=>by
  have e:setArgs i (v::l) t=setArgs (i+1) l (eb (Pm 8 i) (some v) t):=rfl
  rw[e,ABz,nk,zo l]
  rfl
theorem m8(n:Nat)(t:Tm)(df:List Deferred)(S:St):∀l,R1 P t S l=FL P ⟨n,t,df⟩ S l
 | []=>rfl
 | .tmp x::l=>by
  unfold R1 FL
  rw[m8 n t df S l,WV]
  rfl
 | .cell x e::l=>by
  unfold R1 FL
  rw[m8 n t df S l,WV]
  rfl
theorem AH8(rs:List ResultVar)(r:AY):wy P rs r=(match r with
   |some (e,a',S')=>match e with
    | .normal| .ret=>match GS a'.defers S' with
     |some GA=>match FL P a' GA rs with
      |some [v]=>some (.returned v,GA)
      |some vs=>some (.returned (.tuple vs.toArray),GA)
      |none=>none
     |none=>none
    | .panic ch=>match GS a'.defers S' with
     |some GA=>some (.panicked ch,GA)
     |none=>none
    |_=>none
   |none=>none):=by
 cases r with
 |none=>rfl
 |some x =>
  obtain⟨e,⟨n,t,df⟩,S⟩:=x
  have vI:nB P rs t (GS df S)=(match GS df S with
     |some GA=>match FL P ⟨n,t,df⟩ GA rs with
      |some [v]=>some (Ending.returned v,GA)
      |some vs=>some (.returned (.tuple vs.toArray),GA)
      |none=>none
     |none=>none):=by
   cases GS df S with
   |none=>rfl
   |some S2 =>
    show zO S2 (R1 P t S2 rs)=_
    rw[m8 n t df]
    simp only
    cases FL P ⟨n,t,df⟩ S2 rs with
    |none=>rfl
    |some l=>match l with
     | []=>rfl
     | [v]=>rfl
     |_::_::_=>rfl
  cases e with
  |normal=>exact vI
  |ret=>exact vI
  |panic ch =>
   show yd ch (GS df S)=_
   simp only
   cases GS df S<;>rfl
  |exit id=>rfl
  |goto l=>rfl
  |outgrown=>rfl
theorem AFE(K:BX)(ih:Ap)(f:FuncId)(args:List Value)(S:St):sf P K ih f args S (ff P f)=Kz P K ih f args S:=by
 unfold ff Kz
 cases hf:P.funcs[f]? with
 |none=>rfl
 |some fn =>
  simp only
  cases hb:fn.body with
  |none=>show s9 (K.ext f args S)=_;cases K.ext f args S<;>rfl
  |some c =>
   simp only
   cases hn:(fn.name== "runtime.NumGoroutine")with
   |true=>rfl
   |false =>
    simp only[cond_false,Bool.false_or]
    show gj P ih (El fn.ntmps args.length) c fn.results.toList args S=_
    unfold gj
    cases Nat.blt 256 (El fn.ntmps args.length)with
    |true=>rfl
    |false =>
     simp only[cond_false]
     rw[AH8,zo]
     first
      |rfl
      |(split<;>rfl)
theorem AEZ(K:BX)(ih:Ap):ZK P K ih=NR P K ih:=by
 funext target args S
 unfold ZK
 split
 ·rename_i f
  simp only[NR,List.append_nil,Hb,AFE]
  cases K.call f args S<;>rfl
 rfl
theorem gL(K:BX):∀n,NY P K n=fns P K n
 |0=>rfl
 |n+1=>by
  have e:NY P K (n+1)=⟨fp P (NY P K n),ZK P K (NY P K n)⟩:=rfl
  rw[e,AFM,AEZ,gL K n]
  rfl
end
end Go.Cm
namespace Go.Cm
open Go
variable{P:Program}{w0:Bi}{K:BX}
def WJ(f:DataW Unit→Option (List Value)):List (DataW Unit)→Option (List Value)
 | []=>some []
 |d::r=>match f d,WJ f r with
  |some a,some b=>some (a++b)
  |_,_=>none
def WK(f:TypeId→DataW Unit→Option (List Value)):List Field→List (DataW Unit)→Option (List Value)
 | [],[]=>some []
 |x::fs,d::r=>match f x.type d,WK f fs r with
  |some a,some b=>some (a++b)
  |_,_=>none
 |_,_=>none
def L3(P:Program)(n:Nat):List Field→Nat→Bool
 | [],o=>Nat.beq o n
 |f::r,o=>Nat.beq f.offset o&&L3 P n r (o+P.cellsOf f.type)
def dc(P:Program):Nat→TypeId→DataW Unit→Option (List Value)
 |0,_,_=>none
 |n+1,t,d=>match P.underlying t,d with
  |some .bool,.lit (.bool b)=>some [.bool b]
  |some (.int _),.lit (.int k m)=>some [.int k m]
  |some .string,.lit (.string s)=>some [.string ⟨s.toArray⟩]
  |some (.array m e),.agg l=>bif Nat.beq (P.cellsOf t) (m*P.cellsOf e)then WJ (dc P n e) l else none
  |some (.struct fs),.agg l=>bif L3 P (P.cellsOf t) fs.toList 0 then WK (dc P n) fs.toList l else none
  |_,_=>none
theorem chunks(z:Nat)(cs:List Value):∀(j k:Nat),cs.length=(k+j)*z→cs.drop (k*z)=(List.range' k j).flatMap fun i=>(cs.drop (i*z)).take z
 |0,k,h=>by
  rw[List.drop_eq_nil_of_le (by rw[h];exact Nat.le_refl _)];rfl
 |j+1,k,h=>by
  rw[List.range'_succ,List.flatMap_cons,←chunks z cs j (k+1) (by rw[h];congr 1;omega)]
  rw[show(k+1)*z=k*z+z from Nat.succ_mul k z,←List.drop_drop,List.take_append_drop]
theorem sK{f:DataW Unit→Option (List Value)}{g:Nat→Option (DataW Unit×List MemPlace)}{c:Nat→List Value}(hf:∀i d p l,g i=some (d,p)→f d=some l→c i=l) :
  ∀(is:List Nat) (xs:List (DataW Unit×List MemPlace)) (l:List Value),is.mapM g=some xs→WJ f (xs.map (·.1))=some l→is.flatMap c=l
 | [],xs,l,hm,hl=>by
  simp only[List.mapM_nil,Option.pure_def,Option.some.injEq]at hm
  subst hm
  simp only[List.map_nil,WJ,Option.some.injEq]at hl
  subst hl
  rfl
 |i::is,xs,l,hm,hl=>by
  rw[List.mapM_cons]at hm
  obtain⟨y,hy,hm⟩:=Option.mem_bind_iff.1 hm
  obtain⟨ys,Nr,hm⟩:=Option.mem_bind_iff.1 hm
  cases hm
  simp only[List.map_cons,WJ]at hl
  split at hl
  ·rename_i a b ha hb
   cases hl
   rw[List.flatMap_cons,sK hf is ys b Nr hb,hf i y.1 y.2 a hy ha]
  cases hl
theorem sM{f:TypeId→DataW Unit→Option (List Value)}{g:Field→Option (DataW Unit×List MemPlace)}{cs:List Value}(hf:∀x d p l,g x=some (d,p)→f x.type d=some l→(cs.drop x.offset).take (P.cellsOf x.type)=l) :
  ∀(fs:List Field) (o:Nat) (xs:List (DataW Unit×List MemPlace)) (l:List Value),L3 P cs.length fs o=true→fs.mapM g=some xs→WK f fs (xs.map (·.1))=some l→cs.drop o=l
 | [],o,xs,l,hc,hm,hl=>by
  simp only[List.mapM_nil,Option.pure_def,Option.some.injEq]at hm
  subst hm
  simp only[List.map_nil,WK,Option.some.injEq]at hl
  subst hl
  rw[Bc hc,List.drop_length]
 |x::fs,o,xs,l,hc,hm,hl=>by
  rw[List.mapM_cons]at hm
  obtain⟨y,hy,hm⟩:=Option.mem_bind_iff.1 hm
  obtain⟨ys,Nr,hm⟩:=Option.mem_bind_iff.1 hm
  cases hm
  simp only[L3,Bool.and_eq_true]at hc
  simp only[List.map_cons,WK]at hl
  split at hl
  ·rename_i a b ha hb
   cases hl
   rw[←sM hf fs _ ys b hc.2 Nr hb,←hf x y.1 y.2 a hy ha,Bc hc.1,←List.drop_drop,List.take_append_drop]
  cases hl
theorem fX{w:World}{base:Nat}{sp:Nat→Bool}{held:Bool}:∀(n:Nat) (t:TypeId) (d:DataW Unit) (l cs:List Value) (fuel:Nat) (p:List MemPlace),
  DataW.trod (fun _=>()) P w base sp held fuel t cs=some (d,p)→dc P n t d=some l→cs=l
 |0,t,d,l,cs,fuel,p,h,hl=>by cases hl
 |n+1,t,d,l,cs,0,p,h,hl=>by simp[DataW.trod]at h
 |n+1,t,d,l,cs,fuel+1,p,h,hl=>by
  unfold dc at hl
  split at hl
  ·rename_i b hu
   cases hl
   simp only[DataW.trod,hu]at h
   split at h<;>simp_all
  ·rename_i k m hu
   cases hl
   simp only[DataW.trod,hu]at h
   split at h<;>simp_all
  ·rename_i s hu
   cases hl
   simp only[DataW.trod,hu]at h
   split at h<;>simp_all
   obtain⟨_,rfl,_⟩:=h
   rfl
  ·rename_i m e ds hu
   cases hb:Nat.beq (P.cellsOf t) (m*P.cellsOf e)with
   |false=>rw[hb]at hl;cases hl
   |true =>
    rw[hb]at hl
    simp only[cond_true]at hl
    have A4:=Bc hb
    simp only[DataW.trod,hu]at h
    split at h
    ·rename_i hlen
     obtain⟨xs,hm,hx⟩:=Option.map_eq_some_iff.1 h
     have By:xs.map (·.1)=ds:=by
      have:=congrArg Prod.fst hx
      simpa using this
     rw[←By]at hl
     have:=sK (c:=fun i=>(cs.drop (i*P.cellsOf e)).take (P.cellsOf e)) (fun i d p l h1 h2=>fX n e d l _ fuel p h1 h2) _ _ _ hm hl
     rw[←this,List.range_eq_range']
     have h2:=chunks (P.cellsOf e) cs m 0 (by rw[hlen,A4,Nat.zero_add])
     rw[Nat.zero_mul,List.drop_zero]at h2
     exact h2
    cases h
  ·rename_i fs ds hu
   cases hb:L3 P (P.cellsOf t) fs.toList 0 with
   |false=>rw[hb]at hl;cases hl
   |true =>
    rw[hb]at hl
    simp only[cond_true]at hl
    simp only[DataW.trod,hu]at h
    split at h
    ·rename_i hlen
     obtain⟨xs,hm,hx⟩:=Option.map_eq_some_iff.1 h
     have By:xs.map (·.1)=ds:=by
      have:=congrArg Prod.fst hx
      simpa using this
     rw[←By]at hl
     have:=sM (cs:=cs) (fun x d p l h1 h2=>fX n x.type d l _ fuel p h1 h2) _ 0 xs l (by rw[hlen];exact hb) hm hl
     rw[List.drop_zero]at this
     exact this
    cases h
  cases hl
theorem bX{W:World}:∀(laid:List (String×DataW Unit)) (ps:List MemPlace),DataW.LaidVars P W laid ps→∀n d,(n,d)∈laid→∀g t k l,P.globalNamed n=some g→(P.globals[g]?).map (·.type)=some t→dc P k t d=some l →
  ∃(arr:Array Value) (e:TypeId) (fz:Nat×Nat),W.heap[g]?=some (.cells arr e fz)∧arr.toList=l
 | [],ps,h,n,d,hm,g,t,k,l,hg,ht,hl=>by cases hm
 |(m,d')::laid,ps,h,n,d,hm,g,t,k,l,hg,ht,hl=>by
  obtain⟨g',t',cs,fuel,p,q,h1,h2,h3,h4,h5,_⟩:=h
  rcases List.mem_cons.1 hm with he|he
  ·obtain⟨rfl,rfl⟩:=Prod.mk.inj he
   obtain rfl:=Option.some.inj (hg.symm.trans h1)
   obtain rfl:=Option.some.inj (ht.symm.trans h2)
   have:=fX k t _ l cs.toList fuel p h4 hl
   unfold World.var? at h3
   rw[hg]at h3
   simp only[Option.bind_some]at h3
   split at h3
   ·rename_i arr e fz hh
    cases h3
    exact⟨_,_,_,hh,this⟩
   cases h3
  exact bX laid q h5 n d he g t k l hg ht hl
def db:List (Nat×List Value)→Cr
 | []=>Cr.nil
 |(g,l)::r=>(db r).set g (some (.cells l 0 false false []))
def Kb(G:List (Nat×List Value))(n:Nat):St:=⟨db G,n⟩
theorem dh(n:Nat):∀(G:List (Nat×List Value)) (b:Nat) (B:AF),(Kb G n).get b=some B→∃l,(b,l)∈G∧B= .cells l 0 false false []
 | [],b,B,h=>by
  simp only[Kb,db,St.get,Cr.get_nil]at h
  cases h
 |(g,l)::G,b,B,h=>by
  simp only[Kb,db,St.get,Cr.Hd]at h
  split at h
  ·rename_i he
   cases h
   exact⟨l,by rw[he];simp,rfl⟩
  obtain⟨l',h1,h2⟩:=dh n G b B h
  exact⟨l',by simp[h1],h2⟩
def de(n:Nat)(W:World):AI:=fun g=>if g<n then some ⟨g,0,match W.heap[g]? with|some (.cells arr _ _)=>arr.size|_=>0,0⟩else none
theorem oK{W:World}{G:List (Nat×List Value)}(hn:P.globals.size≤W.heap.size)(hG:∀g l,(g,l)∈G→∃(arr:Array Value) (e:TypeId) (fz:Nat×Nat),W.heap[g]?=some (.cells arr e fz)∧arr.toList=l)
  (hf:∀g l,(g,l)∈G→∀v∈l,Dx L8 v=true):AW P ⟨W,fun _=>false⟩ (de P.globals.size W) (Kb G P.globals.size) W:=by
 refine⟨Nat.le_refl _,fun _ _=>rfl,rfl,rfl,fun b L hb=>?_,fun b L B hb hB=>?_,fun b L B hb hB hm=>?_,fun g hg=>?_,fun b hb=>by cases hb⟩
 ·unfold de at hb
  split at hb
  ·rename_i AN
   cases hb
   exact⟨AN,Nat.lt_of_lt_of_le AN hn⟩
  cases hb
 ·obtain⟨l,hl,rfl⟩:=dh _ G b B hB
  obtain⟨arr,e,fz,h1,h2⟩:=hG b l hl
  unfold de at hb
  split at hb
  ·cases hb
   simp only[h1]
   refine⟨arr,e,fz,rfl,rfl,fun i v hv=>⟨v,?_,(NX _ _ (hf b l hl v (List.mem_of_getElem? hv))).refl _⟩,(fun h=>nomatch h),(fun h=>nomatch h),fun _=>⟨rfl,rfl,by rw[←h2];simp⟩,fun _ h=>absurd rfl h⟩
   rw[Nat.zero_add,←Array.getElem?_toList,h2]
   exact hv
  cases hb
 ·obtain⟨l,hl,rfl⟩:=dh _ G b B hB
  cases hm
 unfold de
 rw[if_pos hg]
 exact⟨_,rfl,rfl,rfl⟩
end Go.Cm
namespace Go.Cm
open Go
variable{P:Program}{w0:Bi}{K:BX}
structure AO where
 n:Nat
 ASW:List Value
 ZH:List (Nat×AF)
 size:Nat
def AO.act(L:AO):Ca:=⟨L.n,PT.ofList 0 (PT.nil 8) L.ASW,[]⟩
def XY:List (Nat×AF)→Cr
 | []=>Cr.nil
 |(b,B)::r=>(XY r).set b (some B)
def AO.st(L:AO):St:=⟨XY L.ZH,L.size⟩
def ck:List Nat→List Nat→Bool
 | [],[]=>true
 |a::l,b::r=>Nat.beq a b&&ck l r
 |_,_=>false
theorem zf:∀a b:List Nat,ck a b=true→a=b
 | [],[],_=>rfl
 | [],_::_,h=>by cases h
 |_::_,[],h=>by cases h
 |a::l,b::r,h=>by
  simp only[ck,Bool.and_eq_true]at h
  rw[Bc h.1,zf l r h.2]
def YK:AF→AF→Bool
 | .cells c e r o k,.cells c' e' r' o' k'=>Gp 100000 c c'&&(Nat.beq e e'&&((r==r')&&((o==o')&&ck k k')))
 | .map [] c,.map [] c'=>Nat.beq c c'
 |_,_=>false
theorem zZ(a b:AF)(h:YK a b=true):a=b:=by
 unfold YK at h
 split at h
 ·simp only[Bool.and_eq_true]at h
  rw[R6 _ _ _ h.1,Bc h.2.1,eq_of_beq h.2.2.1,eq_of_beq h.2.2.2.1,zf _ _ h.2.2.2.2]
 ·rw[Bc h]
 cases h
def Aj(L:AO)(r:AY):Bool:=match r with
 |some (.normal,⟨n,t,[]⟩,S)=>Nat.beq n L.n&&((List.range 256).all (fun i=>CP 100000 (Ca.get ⟨n,t,[]⟩ i) (L.act.get i))&&(L.ZH.all (fun x=>match S.get x.1 with
  |some B=>YK x.2 B
  |none=>false)&&Nat.beq S.size L.size))
 |_=>false
theorem AW.sub{ρ:AI}{S T:St}{w:World}(h:AW P w0 ρ S w)(hs:∀b B,T.get b=some B→S.get b=some B)(hz:T.size=S.size):AW P w0 ρ T w :=
 ⟨h.size,h.old,h.os,h.out,fun b L hb=>by rw[hz];exact h.Dj b L hb,fun b L B hb hB=>h.Bn b L B hb (hs b B hB),
  fun b L B hb hB hm=>⟨(h.own b L B hb (hs b B hB) hm).1,fun b' L' B' Bj hr EC Ac=>(h.own b L B hb (hs b B hB) hm).2 b' L' B' Bj hr (hs b' B' EC) Ac⟩,h.KE,fun b hb=>by rw[hz];exact h.no b hb⟩
theorem lU:∀(l:List (Nat×AF)) (b:Nat) (B:AF),(XY l).get b=some B→(b,B)∈l
 | [],b,B,h=>by simp only[XY,Cr.get_nil]at h;cases h
 |(c,C)::l,b,B,h=>by
  simp only[XY,Cr.Hd]at h
  split at h
  ·rename_i he
   cases h
   rw[he];simp
  exact List.mem_cons_of_mem _ (lU l b B h)
theorem Rj{L:AO}{r:AY}(h:Aj L r=true):∃a S,r=some (.normal,a,S)∧(∀ρ ar,Bh ρ a ar→Bh ρ L.act ar)∧(∀(w0:Bi) (ρ:AI) (w:World),AW P w0 ρ S w→AW P w0 ρ L.st w):=by
 unfold Aj at h
 split at h
 ·rename_i n t S
  simp only[Bool.and_eq_true,List.all_eq_true]at h
  obtain⟨h1,h2,h3,h4⟩:=h
  have h1:=Bc h1
  have h4:=Bc h4
  refine⟨_,_,rfl,fun ρ ar ha=>?_,fun w0 ρ w hs=>?_⟩
  ·have Dm:∀i,Ca.get ⟨n,t,[]⟩ i=L.act.get i:=by
    intro i
    rcases Nat.lt_or_ge i 256 with hi|hi
    ·exact Pj _ _ _ (h2 i (List.mem_range.2 hi))
    have hb:¬i<2 ^ 8:=Nat.not_lt.2 hi
    unfold Ca.get
    rw[PT.tb _ hb,PT.tb _ hb]
   refine⟨by have:=ha.le;simp only at this;rw[h1]at this;exact this,⟨by have:=ha.tm.1;rw[h1]at this;exact this,fun i=>?_⟩,ha.df⟩
   have:=ha.tm.2 i
   rw[←get_eq ⟨n,t,[]⟩,Dm,get_eq]at this
   exact this
  refine hs.sub (fun b B hB=>?_) h4.symm
  have hm:=lU _ _ _ hB
  have:=h3 (b,B) hm
  simp only at this
  split at this
  ·rename_i C hC
   rw[zZ _ _ this];exact hC
  cases this
 cases h
def CO(ex:Option Nat→Code→Ca→St→AY):List Code→Ca→St→AY
 | [],a,S=>some (.normal,a,S)
 |c::r,a,S=>match ex none c a S with
  |some (.normal,a',S')=>CO ex r a' S'
  |r=>r
end Go.Cm
namespace Go.Cm
open Go
variable{P:Program}{w0:Bi}{K:BX}
def Lr(P:Program)(w0:Bi)(ops:Array Oper)(l:List Oper)(a:Ca)(S:St)(L:AO):Prop :=
 ∀(ρ:AI) (w:World) (ar:Act),AW P w0 ρ S w→Bh ρ a ar→∀(Q:Exit→Act→World→Prop),(∀ρ1 DR w1,Ext ρ ρ1→Bh ρ1 L.act DR→AW P w0 ρ1 L.st w1→Q .normal DR w1)→wpListIn (FW none) 0 P ops Q l ar w
theorem nZ{ih:Ap}(Av:DU P w0 ih){ops:Array Oper}{ro:Option Nat}{a1:Ca}{S1:St}{Q:Exit→Act→World→Prop}{more:List Oper} :
  ∀(l:List Oper) (a:Ca) (S:St),BT P ih ops.toList l a S=some (.normal,a1,S1)→(∀o,o∈l→NB P o)→∀(ρ:AI) (w:World) (ar:Act),AW P w0 ρ S w→Bh ρ a ar →
   (∀ρ1 DR w1,Ext ρ ρ1→Bh ρ1 a1 DR→AW P w0 ρ1 S1 w1→wpListIn (FW ro) 0 P ops Q more DR w1)→wpListIn (FW ro) 0 P ops Q (l++more) ar w
 | [],a,S,h,_,ρ,w,ar,hs,ha,hQ=>by
  simp only[BT,Option.some.injEq,Prod.mk.injEq,true_and]at h
  obtain⟨rfl,rfl⟩:=h
  exact hQ ρ ar w (Ext.refl _) ha hs
 |o::rest,a,S,h,hc,ρ,w,ar,hs,ha,hQ=>by
  unfold BT at h
  have RR:=Tg ha (ops:=ops) (o:=o)
  rw[List.cons_append]
  unfold wpListIn
  rw[←RR]
  cases hw:Du ops.toList a o with
  |false =>
   rw[hw]at h
   simp only[cond_false]at h
   split at h
   ·rename_i a2 hp
    simp only[Bool.false_eq_true,if_false]
    exact⟨Ks,nZ Av rest a2 S h (fun o ho=>hc o (by simp[ho])) ρ w _ hs (ha.put hp (VR.undef _)) hQ⟩
   cases h
  |true =>
   rw[hw]at h
   simp only[cond_true]at h
   simp only[if_true]
   refine⟨Ks,?_⟩
   split at h
   ·rename_i v S2 BL
    split at h
    ·rename_i a2 hp
     refine Tc Av hs (ha.D3 hs (hc o (by simp))) BL ⟨?_,?_⟩
     ·intro v2 e2 ρ' v' w' h1 h2 h3
      cases e2
      exact nZ Av rest a2 S2 h (fun o ho=>hc o (by simp[ho])) ρ' w' _ h3 ((ha.mono h1).put hp h2) (fun ρ1 DR w1 x y z=>hQ ρ1 DR w1 (h1.trans x) y z)
     intro c e2;cases e2
    cases h
   ·cases h
   cases h
theorem AR9{ops:Array Oper}{L:AO}:Lr P w0 ops [] L.act L.st L:=fun ρ w ar hs ha _ hQ=>hQ ρ ar w (Ext.refl _) ha hs
theorem AAy{ih:Ap}(Av:DU P w0 ih){ops:Array Oper}{l m:List Oper}{a:Ca}{S:St}{L1 L2:AO}(h:Aj L1 (BT P ih ops.toList l a S)=true)(hc:D' P l=true)
  (k:Lr P w0 ops m L1.act L1.st L2):Lr P w0 ops (l++m) a S L2:=by
 obtain⟨a1,S1,e,A,B⟩:=Rj (P:=P) h
 intro ρ w ar hs ha Q hQ
 refine nZ Av l a S e (Qj hc) ρ w ar hs ha fun ρ1 DR w1 x y z=>?_
 exact k ρ1 w1 DR (B _ _ _ z) (A _ _ y) Q fun ρ2 DX w2 p q r=>hQ ρ2 DX w2 (x.trans p) q r
theorem tR{W:World}(hm:P.follows .mixedOrders=true)(hK:Jz P K W)(n:Nat):DU P ⟨W,fun _=>false⟩ (NY P K n):=by
 rw[gL]
 exact gM hm hK n n (Nat.le_refl _) (fun _=>false)
def hd:Code→Code
 | .seq a _=>a
 |c=>c
def tl:Code→Code
 | .seq _ b=>b
 |c=>c
def Ay:Code→Array Oper
 | .region _ ops _=>ops
 |_=> #[]
def AHm:Code→Bool
 | .seq _ _=>true
 |_=>false
def EF:Nat→Code→Code
 |0,c=>c
 |n+1,c=>EF n (tl c)
def By:Nat→Code→List Code
 |0,_=>[]
 |n+1,c=>hd c::By n (tl c)
def XQ:Nat→Code→Bool
 |0,_=>true
 |n+1,c=>AHm c&&XQ n (tl c)
theorem oV{ih:Ap}(Av:DU P w0 ih){a1:Ca}{S1:St}{Q:Exit→Act→World→Prop}:∀(k:Nat) (c:Code),XQ k c=true→∀(a:Ca) (S:St),CO ih.exec (By k c) a S=some (.normal,a1,S1)→∀(ρ:AI) (w:World) (ar:Act),
  AW P w0 ρ S w→Bh ρ a ar→(∀ρ1 DR w1,Ext ρ ρ1→Bh ρ1 a1 DR→AW P w0 ρ1 S1 w1→(EF k c).wpIn (FW none) 0 P Q DR w1)→c.wpIn (FW none) 0 P Q ar w
 |0,c,_,a,S,h,ρ,w,ar,hs,ha,hk=>by
  simp only[By,CO,Option.some.injEq,Prod.mk.injEq,true_and]at h
  obtain⟨rfl,rfl⟩:=h
  exact hk ρ ar w (Ext.refl _) ha hs
 |k+1,c,hc,a,S,h,ρ,w,ar,hs,ha,hk=>by
  simp only[XQ,Bool.and_eq_true]at hc
  cases c with
  |seq x y =>
   simp only[By,hd,tl]at h
   unfold CO at h
   split at h
   ·rename_i a2 S2 hx
    refine wpIn_seq (wpIn_mono (Av.exec none x _ _ _ _ _ hx ρ w ar none hs ha (.inl ⟨rfl,rfl⟩)) ?_)
    rintro e2 DX w2 ⟨ρ2,h1,h2,h3,h4⟩
    cases h2
    exact oV Av k y hc.2 a2 S2 h ρ2 w2 DX h4 h3 fun ρ1 DR w1 p q r=>hk ρ1 DR w1 (h1.trans p) q r
   rename_i Ac
   exact absurd h (Ac a1 S1)
  |_=>cases hc.1
def EI(c:Code)(i j:Nat):List Oper:=((Ay c).toList.drop i).take (j-i)
theorem FN{ih:Ap}(Av:DU P w0 ih){c:Code}{i j:Nat}(MJ:Nat.ble i j=true){a:Ca}{S:St}{L1 L2:AO}(h:Aj L1 (BT P ih (Ay c).toList (EI c i j) a S)=true)(hc:D' P (EI c i j)=true)
  (k:Lr P w0 (Ay c) ((Ay c).toList.drop j) L1.act L1.st L2):Lr P w0 (Ay c) ((Ay c).toList.drop i) a S L2:=by
 have e:(Ay c).toList.drop i=EI c i j++(Ay c).toList.drop j:=by
  have MJ:=Nat.le_of_ble_eq_true MJ
  unfold EI
  conv=>lhs;rw[←List.take_append_drop (j-i) ((Ay c).toList.drop i)]
  rw[List.drop_drop]
  congr 2
  omega
 rw[e]
 exact AAy Av h hc k
theorem Fc{ih:Ap}(Av:DU P w0 ih){c:Code}{i:Nat}{a:Ca}{S:St}{L1:AO}(h:Aj L1 (BT P ih (Ay c).toList ((Ay c).toList.drop i) a S)=true)(hc:D' P ((Ay c).toList.drop i)=true) :
  Lr P w0 (Ay c) ((Ay c).toList.drop i) a S L1:=by
 have:=AAy Av h hc AR9
 rw[List.append_nil]at this
 exact this
end Go.Cm
namespace Go.Cm
open Go
variable{P:Program}{w0:Bi}{K:BX}
def Ec(P:Program)(w0:Bi)(c:Code)(a:Ca)(S:St)(e:Exit)(L:AO):Prop :=
 ∀(ρ:AI) (w:World) (ar:Act),AW P w0 ρ S w→Bh ρ a ar→c.wpIn (FW none) 0 P (fun e1 DR w1=>e1=e∧∃ρ1,Ext ρ ρ1∧Bh ρ1 L.act DR∧AW P w0 ρ1 L.st w1) ar w
def GM(e:Exit)(L:AO)(r:AY):Bool:=match e,r with
 | .normal,some (.normal,a,S)=>Aj L (some (.normal,a,S))
 | .ret,some (.ret,a,S)=>Aj L (some (.normal,a,S))
 | .exit i,some (.exit j,a,S)=>Nat.beq i j&&Aj L (some (.normal,a,S))
 |_,_=>false
theorem AIL{e:Exit}{L:AO}{r:AY}(h:GM e L r=true):∃a S,r=some (e,a,S)∧(∀ρ ar,Bh ρ a ar→Bh ρ L.act ar)∧(∀(w0:Bi) (ρ:AI) (w:World),AW P w0 ρ S w→AW P w0 ρ L.st w):=by
 unfold GM at h
 split at h
 ·obtain⟨a1,S1,e1,A,B⟩:=Rj (P:=P) h
  cases e1
  exact⟨_,_,rfl,A,B⟩
 ·obtain⟨a1,S1,e1,A,B⟩:=Rj (P:=P) h
  cases e1
  exact⟨_,_,rfl,A,B⟩
 ·rw[Bool.and_eq_true]at h
  obtain⟨a1,S1,e1,A,B⟩:=Rj (P:=P) h.2
  cases e1
  rw[Bc h.1]
  exact⟨_,_,rfl,A,B⟩
 cases h
theorem Hu{ih:Ap}(Av:DU P w0 ih){c:Code}{a:Ca}{S:St}{e:Exit}{L:AO}(h:GM e L (ih.exec none c a S)=true):Ec P w0 c a S e L:=by
 obtain⟨a1,S1,e1,A,B⟩:=AIL (P:=P) h
 intro ρ w ar hs ha
 refine wpIn_mono (Av.exec none c _ _ _ _ _ e1 ρ w ar none hs ha (.inl ⟨rfl,rfl⟩)) ?_
 rintro e2 DX w2 ⟨ρ2,h1,h2,h3,h4⟩
 cases h2 with
 |normal=>exact⟨rfl,ρ2,h1,A _ _ h3,B _ _ _ h4⟩
 |exit id=>exact⟨rfl,ρ2,h1,A _ _ h3,B _ _ _ h4⟩
 |ret=>exact⟨rfl,ρ2,h1,A _ _ h3,B _ _ _ h4⟩
 |Ab hp =>
  exfalso
  unfold GM at h
  rw[e1]at h
  cases h
theorem ASC{x y:Code}{a:Ca}{S:St}{e:Exit}{L1 L2:AO}(h:Ec P w0 x a S .normal L1)(k:Ec P w0 y L1.act L1.st e L2):Ec P w0 (.seq x y) a S e L2:=by
 intro ρ w ar hs ha
 refine wpIn_seq (wpIn_mono (h ρ w ar hs ha) ?_)
 rintro e1 DR w1 ⟨rfl,ρ1,h1,h2,h3⟩
 refine wpIn_mono (k ρ1 w1 DR h3 h2) ?_
 rintro e2 DX w2 ⟨rfl,ρ2,k1,k2,k3⟩
 exact⟨rfl,ρ2,h1.trans k1,k2,k3⟩
def leaves:Exit→Bool
 | .ret=>true
 | .exit _=>true
 |_=>false
theorem AR'{i:Nat}{c:Code}{a:Ca}{S:St}{L:AO}(h:Ec P w0 c a S (.exit i) L):Ec P w0 (.block i c) a S .normal L:=by
 intro ρ w ar hs ha
 refine wpIn_block (wpIn_mono (h ρ w ar hs ha) ?_)
 rintro e1 DR w1 ⟨rfl,hx⟩
 simp only[Exit.inBlock,if_true]
 exact⟨trivial,hx⟩
theorem ASD{i:Nat}{c:Code}{a:Ca}{S:St}{e:Exit}{L:AO}(he:(match e with| .exit j=>!(Nat.beq j i)| .normal=>true| .ret=>true|_=>false)=true)(h:Ec P w0 c a S e L):Ec P w0 (.block i c) a S e L:=by
 intro ρ w ar hs ha
 refine wpIn_block (wpIn_mono (h ρ w ar hs ha) ?_)
 rintro e1 DR w1 ⟨rfl,hx⟩
 cases e1 with
 |normal=>exact⟨rfl,hx⟩
 |ret=>exact⟨rfl,hx⟩
 |exit j =>
  have hj:j≠i:=fun e=>by subst e;simp at he
  simp only[Exit.inBlock,hj,if_false]
  exact⟨trivial,hx⟩
 |_=>cases he
def ABp(P:Program)(w0:Bi)(c:Code)(a:Ca)(S:St)(a1:Ca)(S1:St):Prop :=
 ∀(ρ:AI) (w:World) (ar:Act),AW P w0 ρ S w→Bh ρ a ar→c.wpIn (FW none) 0 P (fun e1 DR w1=>e1= .normal∧∃ρ1,Ext ρ ρ1∧Bh ρ1 a1 DR∧AW P w0 ρ1 S1 w1) ar w
inductive J2(P:Program)(w0:Bi)(c:Code)(e:Exit)(L:AO):Nat→Ca→St→Prop
 |last {a:Ca} {S:St} (h:Ec P w0 c a S e L):J2 P w0 c e L 0 a S
 |next {m:Nat} {a:Ca} {S:St} {L1:AO} (h:Ec P w0 c a S .normal L1) (k:J2 P w0 c e L m L1.act L1.st):J2 P w0 c e L (m+1) a S
 |step {m:Nat} {a:Ca} {S:St} {a1:Ca} {S1:St} (h:ABp P w0 c a S a1 S1) (k:J2 P w0 c e L m a1 S1):J2 P w0 c e L (m+1) a S
 |cut {m:Nat} {a:Ca} {S:St} {L1:AO} (ha:∀ρ ar,Bh ρ a ar→Bh ρ L1.act ar) (hs:∀(ρ:AI) (w:World),AW P w0 ρ S w→AW P w0 ρ L1.st w) (k:J2 P w0 c e L m L1.act L1.st):J2 P w0 c e L m a S
theorem AKI{c:Code}{e:Exit}{L:AO}{m:Nat}{a:Ca}{S:St}(hr:J2 P w0 c e L m a S):∀(ρ:AI) (w:World) (ar:Act),AW P w0 ρ S w→Bh ρ a ar →
  c.wpIn (FW none) 0 P (fun e1 DR w1=>(e1=e∧∃ρ1,Ext ρ ρ1∧Bh ρ1 L.act DR∧AW P w0 ρ1 L.st w1)∨(e1= .normal∧∃k,k<m∧∃a1 S1 ρ1,Ext ρ ρ1∧J2 P w0 c e L k a1 S1∧AW P w0 ρ1 S1 w1∧Bh ρ1 a1 DR)) ar w:=by
 induction hr with
 |last h =>
  intro ρ w ar hs ha
  exact wpIn_mono (h ρ w ar hs ha) fun _ _ _ hq=> .inl hq
 |next h k _ =>
  intro ρ w ar hs ha
  refine wpIn_mono (h ρ w ar hs ha) ?_
  rintro e1 DR w1 ⟨rfl,ρ2,h1,h2,h3⟩
  exact .inr ⟨rfl,_,Nat.lt_succ_self _,_,_,ρ2,h1,k,h3,h2⟩
 |step h k _ =>
  intro ρ w ar hs ha
  refine wpIn_mono (h ρ w ar hs ha) ?_
  rintro e1 DR w1 ⟨rfl,ρ2,h1,h2,h3⟩
  exact .inr ⟨rfl,_,Nat.lt_succ_self _,_,_,ρ2,h1,k,h3,h2⟩
 |cut iJ PA _ ih =>
  intro ρ w ar hs ha
  exact ih ρ w ar (PA _ _ hs) (iJ _ _ ha)
theorem ASA{c:Code}{a:Ca}{S:St}{e:Exit}{L:AO}{m:Nat}(he:leaves e=true)(h:J2 P w0 c e L m a S):Ec P w0 (.loop c) a S e L:=by
 intro ρ w ar hs ha
 refine wpIn_loop_ghost (fun m ar w=>∃a S ρ1,Ext ρ ρ1∧J2 P w0 c e L m a S∧AW P w0 ρ1 S w∧Bh ρ1 a ar) m ⟨a,S,ρ,Ext.refl _,h,hs,ha⟩ ?_
 rintro m ar w ⟨a,S,ρ1,hx,hr,hs,ha⟩
 refine wpIn_mono (AKI hr ρ1 w ar hs ha) ?_
 rintro e1 DR w1 (⟨rfl,ρ2,h1,h2,h3⟩|⟨rfl,k,hk,a1,S1,ρ2,h1,h2,h3,h4⟩)
 ·cases e1 with
  |ret=>exact⟨rfl,ρ2,hx.trans h1,h2,h3⟩
  |exit i=>exact⟨rfl,ρ2,hx.trans h1,h2,h3⟩
  |_=>cases he
 exact⟨k,hk,a1,S1,ρ2,hx.trans h1,h2,h3,h4⟩
theorem ASB{id:Nat}{ops:Array Oper}{a:Ca}{S:St}{L:AO}(h:Lr P w0 ops ops.toList a S L):Ec P w0 (.region id ops false) a S .normal L:=by
 intro ρ w ar hs ha
 exact wpIn_region_list (h ρ w ar hs ha _ fun ρ1 DR w1 x y z=>⟨rfl,ρ1,x,y,z⟩)
theorem Gs{ih:Ap}(Av:DU P w0 ih){k:Nat}{c:Code}(hs:XQ k c=true){a:Ca}{S:St}{e:Exit}{L1 L2:AO}(h:Aj L1 (CO ih.exec (By k c) a S)=true)(kk:Ec P w0 (EF k c) L1.act L1.st e L2):Ec P w0 c a S e L2:=by
 obtain⟨a1,S1,e1,A,B⟩:=Rj (P:=P) h
 intro ρ w ar LF ha
 refine oV Av k c hs a S e1 ρ w ar LF ha fun ρ1 DR w1 x y z=>wpIn_mono (kk ρ1 w1 DR (B _ _ _ z) (A _ _ y)) ?_
 rintro e2 DX w2 ⟨rfl,ρ2,k1,k2,k3⟩
 exact⟨rfl,ρ2,x.trans k1,k2,k3⟩
def Yv(P:Program)(w0:Bi)(f:FuncId)(vs:List Value)(S:St)(v:Value)(T:St):Prop :=
 ∀(ρ:AI) (w:World) (args':Array Value),AW P w0 ρ S w→AS ρ vs args'.toList→Kj P (Fu P w0 ρ (.returned v) T) ((callFunc f args').run P w)
def NF(P:Program)(w0:Bi)(fn:Func)(c:Code)(a:Ca)(S:St)(v:Value)(T:St):Prop :=
 ∀(ρ:AI) (w:World) (ar:Act),AW P w0 ρ S w→Bh ρ a ar→∀(R:Ending→World→Prop),(∀e w,Fu P w0 ρ (.returned v) T e w→R e w)→c.wpIn (FW none) 0 P (bodyPostM Fence.wide 0 P fn R) ar w
theorem se{ρ ρ1:AI}(hx:Ext ρ ρ1){e:Ending}{T:St}{e':Ending}{w:World}(h:Fu P w0 ρ1 e T e' w):Fu P w0 ρ e T e' w:=by
 obtain⟨ρ2,a,b,c⟩:=h
 exact⟨ρ2,hx.trans a,b,c⟩
theorem AR8{fn:Func}{x y:Code}{a:Ca}{S:St}{L1:AO}{v:Value}{T:St}(h:Ec P w0 x a S .normal L1)(k:NF P w0 fn y L1.act L1.st v T):NF P w0 fn (.seq x y) a S v T:=by
 intro ρ w ar hs ha R hR
 refine wpIn_seq (wpIn_mono (h ρ w ar hs ha) ?_)
 rintro e1 DR w1 ⟨rfl,ρ1,h1,h2,h3⟩
 exact k ρ1 w1 DR h3 h2 R fun e w h=>hR e w (se h1 h)
theorem Es{ih:Ap}(Av:DU P w0 ih){fn:Func}{k:Nat}{c:Code}(hs:XQ k c=true){a:Ca}{S:St}{L1:AO}{v:Value}{T:St}(h:Aj L1 (CO ih.exec (By k c) a S)=true)(kk:NF P w0 fn (EF k c) L1.act L1.st v T):NF P w0 fn c a S v T:=by
 obtain⟨a1,S1,e1,A,B⟩:=Rj (P:=P) h
 intro ρ w ar LF ha R hR
 exact oV Av k c hs a S e1 ρ w ar LF ha fun ρ1 DR w1 x y z=>kk ρ1 w1 DR (B _ _ _ z) (A _ _ y) R fun e w h=>hR e w (se x h)
def ASG:List Value→Value
 | [v]=>v
 |vs=> .tuple vs.toArray
def EJ(P:Program)(rs:List ResultVar)(v:Value)(L:AO)(r:AY):Bool:=match r with
 |some (e,a,S)=>(match e with| .normal=>true| .ret=>true|_=>false)&&(match GS a.defers S with
  |some T=>match FL P a T rs with
   |some vs=>CP 100000 (ASG vs) v&&(L.ZH.all (fun x=>match T.get x.1 with
    |some B=>YK x.2 B
    |none=>false)&&Nat.beq T.size L.size)
   |none=>false
  |none=>false)
 |none=>false
theorem AD5{L:AO}{T:St}(h1:(L.ZH.all (fun x=>match T.get x.1 with
    |some B=>YK x.2 B
    |none=>false))=true)(h2:Nat.beq T.size L.size=true){ρ:AI}{w:World}(hs:AW P w0 ρ T w):AW P w0 ρ L.st w:=by
 refine hs.sub (fun b B hB=>?_) (Bc h2).symm
 have hm:=lU _ _ _ hB
 have:=List.all_eq_true.1 h1 (b,B) hm
 simp only at this
 split at this
 ·rename_i C hC
  rw[zZ _ _ this];exact hC
 cases this
theorem Er{ih:Ap}(Av:DU P w0 ih){fn:Func}{c:Code}{a:Ca}{S:St}{v:Value}{L:AO}(h:EJ P fn.results.toList v L (ih.exec none c a S)=true):NF P w0 fn c a S v L.st:=by
 intro ρ w ar hs ha R hR
 unfold EJ at h
 split at h
 ·rename_i e a3 S3 hx
  rw[Bool.and_eq_true]at h
  obtain⟨he,h⟩:=h
  split at h
  ·rename_i T XI
   split at h
   ·rename_i vs jM
    simp only[Bool.and_eq_true]at h
    obtain⟨hv,hb,hz⟩:=h
    refine wpIn_mono (Av.exec none c _ _ _ _ _ hx ρ w ar none hs ha (.inl ⟨rfl,rfl⟩)) ?_
    rintro e3 Y5 w3 ⟨ρ3,p1,p2,p3,p4⟩
    have key:LeavesInM Fence.wide 0 P fn Y5.tmps R Y5.defers .returning w3:=by
     refine oQ (ρ:=ρ3) (S2:=T) (by simp) (fun w4 vV=>?_) a3.defers S3 Y5.defers w3 XI p3.df p4
     obtain⟨C2,F2,hr⟩:=cV vV p3 jM
     refine⟨_,hr,hR _ _ ⟨ρ3,p1,.ret ?_,AD5 hb hz vV⟩⟩
     rw[←Pj _ _ _ hv]
     have hl:=F2.1
     cases vs with
     |nil =>
      cases C2 with
      |nil=>exact VR.tuple' AS.nil
      |cons y r=>simp at hl
     |cons x r =>
      cases C2 with
      |nil=>simp at hl
      |cons y r' =>
       cases r with
       |nil =>
        cases r' with
        |nil=>exact F2.head
        |cons _ _=>simp at hl
       |cons x2 r2 =>
        cases r' with
        |nil=>simp at hl
        |cons y2 r2'=>exact VR.tuple' F2
    cases p2 with
    |normal=>exact key
    |ret=>exact key
    |exit id=>cases he
    |Ab hp=>cases he
   cases h
  cases h
 cases h
theorem Ed{f:FuncId}{fn:Func}{c:Code}(hf:P.funcs[f]?=some fn)(hb:fn.body=some c)(Ch:(fn.name== "runtime.NumGoroutine")=false){vs:List Value}{n:Nat}(hn:El fn.ntmps vs.length=n)(hle:Nat.ble n 256=true)
  {S:St}{v:Value}{T:St}(h:NF P w0 fn c {n:=n,t:=PT.ofList 0 (PT.nil 8) vs,defers:=[]} S v T):Yv P w0 f vs S v T:=by
 intro ρ w args' hs hv
 rw[Ph hf hb Ch]
 subst hn
 exact callsIn_of_wp_marks (n:=0) hf hb trivial (h ρ w _ hs (Zj hv (Nat.le_of_ble_eq_true hle)) _ fun _ _ h=>h)
theorem FM{c:Code}{i:Nat}{o:Oper}{x:Operand}{as:Array Operand}{ts:Array TypeId}{f:FuncId}{fi ca:Array Value}{vs:List Value}{v:Value}{L0 Lc L1 L2:AO}
  (ho:nth (Ay c).toList i=some o)(AV:o.op= .call ⟨.value x,as,ts⟩)(hw:Du (Ay c).toList L0.act o=true)(hx:L0.act.ev x= .func (.func f) fi ca)(hv:(fi.toList++as.toList.map L0.act.ev)++ca.toList=vs)(hc:D' P [o]=true)
  (JZ:Yv P w0 f vs L0.st v Lc.st)(Bp:Aj L1 (match L0.act.put o.dst v with|some a=>some (.normal,a,Lc.st)|none=>none)=true)
  (k:Lr P w0 (Ay c) ((Ay c).toList.drop (i+1)) L1.act L1.st L2):Lr P w0 (Ay c) ((Ay c).toList.drop i) L0.act L0.st L2:=by
 intro ρ w ar hs ha Q hQ
 have AGP:(Ay c).toList.drop i=o::(Ay c).toList.drop (i+1):=by
  rw[CE]at ho
  obtain⟨hi,he⟩:=List.getElem?_eq_some_iff.1 ho
  rw[List.drop_eq_getElem_cons hi,he]
 rw[AGP]
 unfold wpListIn
 have RR:=Tg ha (ops:=Ay c) (o:=o)
 rw[←RR,hw]
 simp only[if_true]
 refine⟨Ks,?_⟩
 have AGB:=Qj hc o (by simp)
 have Ax:=ha.D3 hs AGB
 have hd:∀c,o.op≠ .defer c:=by
  intro c hc
  rw[AV]at hc
  cases hc
 rw[Oper.semAt_eq _ _ _ hd]
 have uT:=Ax x (by rw[AV];simp[Op.operands,Call.operands])
 rw[hx]at uT
 obtain⟨H5,Gw,BM,hg,h1,h2⟩:=uT.gW
 obtain⟨a1,S1,e1,A,B⟩:=Rj (P:=P) Bp
 split at e1
 ·rename_i a' hp
  cases e1
  have Q8:∃T3,H5= .func f∧T3=BM∧AS ρ ca.toList T3.toList:=by
   cases h1 with
   |func f ha i1 hc i2=>exact⟨_,rfl,rfl,hc,i2⟩
  obtain⟨T3,rfl,rfl,MH⟩:=Q8
  have Dq:(execOp ar.eval o).run P w=(callFunc f ((Gw++as.map ar.eval)++T3)).run P w:=by
   rw[nf (P:=P) ar.eval AV w (d:={target:= .fn (.func f) T3,args:=Gw++as.map ar.eval}) (by simp[resolve,hg,Deferred.ofValue])]
   rfl
  rw[Dq]
  have O3:AS ρ vs ((Gw++as.map ar.eval)++T3).toList:=by
   rw[←hv,Array.toList_append,Array.toList_append]
   exact(h2.append (ed fun y hy=>Ax y (by rw[AV];simp[Op.operands,Call.operands,hy]))).append MH
  refine oe (JZ ρ w _ hs O3) (.inl ⟨v,rfl,rfl⟩) ⟨?_,?_⟩
  ·intro v2 e2 ρ' v' w' q1 q2 q3
   cases e2
   exact k ρ' w' _ (B _ _ _ q3) (A _ _ ((ha.mono q1).put hp q2)) Q fun ρ2 DX w2 p q r=>hQ ρ2 DX w2 (q1.trans p) q r
  intro c2 e2;cases e2
 cases e1
theorem ry{W:World}{f:FuncId}{fn:Func}{c:Code}(hf:P.funcs[f]?=some fn)(hb:fn.body=some c)(Ch:(fn.name== "runtime.NumGoroutine")=false){G:List (Nat×List Value)}{T:St}
  (h:Yv P ⟨W,fun _=>false⟩ f [] (Kb G P.globals.size) (.bool true) T)(hn:P.globals.size≤W.heap.size)
  (hG:∀g l,(g,l)∈G→∃(arr:Array Value) (e:TypeId) (fz:Nat×Nat),W.heap[g]?=some (.cells arr e fz)∧arr.toList=l)(Iu:∀g l,(g,l)∈G→∀v∈l,Dx L8 v=true) :
  Calls P f #[] W fun e w=>e= .returned (.bool true)∧Kept W w:=by
 have LF:=oK (P:=P) hn hG Iu
 have:=h _ W #[] LF AS.nil
 rw[Ph hf hb Ch]at this
 refine(callsIn_wide.1 this).mono ?_
 rintro e w ⟨ρ',_,h2,h3⟩
 cases h2 with
 |ret hv=>cases hv;exact⟨rfl,h3.kept⟩
def tA:Code→Code
 | .seq a _=>a
 | .cond _ a _=>a
 | .block _ c=>c
 | .loop c=>c
 | .scope c=>c
 |c=>c
def tB:Code→Code
 | .seq _ b=>b
 | .cond _ _ b=>b
 |c=>c
def tI:Code→Nat
 | .block i _=>i
 |_=>0
def tK:Code→Nat
 | .region _ _ false=>1
 | .seq _ _=>3
 | .cond _ _ _=>4
 | .block _ _=>5
 | .loop _=>6
 |_=>10
section
variable{c:Code}{a:Ca}{S:St}{e:Exit}{L L1:AO}
theorem IX(hk:tK c=3)(h:Ec P w0 (tA c) a S .normal L1)(k:Ec P w0 (tB c) L1.act L1.st e L):Ec P w0 c a S e L:=by
 cases c<;>first|exact ASC h k|(rename_i d;cases d<;>cases hk)|cases hk
theorem oW(hk:tK c=5)(h:Ec P w0 (tA c) a S (.exit (tI c)) L):Ec P w0 c a S .normal L:=by
 cases c<;>first|exact AR' h|(rename_i d;cases d<;>cases hk)|cases hk
theorem Vm(hk:tK c=5)(he:(match e with| .exit j=>!(Nat.beq j (tI c))| .normal=>true| .ret=>true|_=>false)=true)(h:Ec P w0 (tA c) a S e L):Ec P w0 c a S e L:=by
 cases c<;>first|exact ASD he h|(rename_i d;cases d<;>cases hk)|cases hk
theorem oX{m:Nat}(hk:tK c=6)(he:leaves e=true)(h:J2 P w0 (tA c) e L m a S):Ec P w0 c a S e L:=by
 cases c<;>first|exact ASA he h|(rename_i d;cases d<;>cases hk)|cases hk
theorem Fe(hk:tK c=1)(h:Lr P w0 (Ay c) (Ay c).toList a S L):Ec P w0 c a S .normal L:=by
 cases c<;>first|(rename_i d;cases d<;>first|exact ASB h|cases hk)|cases hk
theorem G9{fn:Func}{v:Value}{T:St}(hk:tK c=3)(h:Ec P w0 (tA c) a S .normal L1)(k:NF P w0 fn (tB c) L1.act L1.st v T):NF P w0 fn c a S v T:=by
 cases c<;>first|exact AR8 h k|(rename_i d;cases d<;>cases hk)|cases hk
end
end Go.Cm
namespace Go.Cm
open Go
variable{P:Program}{w0:Bi}
theorem AW.view{ρ:AI}{S:St}{w:World}(h:AW P w0 ρ S w){c:List Value}{e:TypeId}{L:Loc}(hr:L.r<w0.heap.size)(hB:Jy P (Bb ρ S.size L) (.cells c e true false []) w.heap[L.r]? L) :
  Ext ρ (Bb ρ S.size L)∧AW P w0 (Bb ρ S.size L) (S.new (.cells c e true false [])).2 w:=by
 have Jb:ρ S.size=none:=by
  cases hx:ρ S.size with
  |none=>rfl
  |some M=>exact absurd (h.Dj _ _ hx).1 (Nat.lt_irrefl _)
 have GI:=Ot L Jb
 have Dm:∀b,(S.new (.cells c e true false [])).2.get b=if b=S.size then some (.cells c e true false [])else S.get b:=by
  intro b
  show(⟨S.heap.set S.size _,S.size+1⟩:St).get b=_
  simp only[St.get,Cr.Hd]
 refine⟨GI,⟨h.size,h.old,h.os,h.out,fun b M hb=>?_,fun b M C hb hC=>?_,fun b M C hb hC hm=>?_,fun g hg=>let⟨M,a,b⟩:=h.KE g hg;⟨M,GI _ _ a,b⟩,fun b hb=>?_⟩⟩
 ·show b<S.size+1∧_
  unfold Bb at hb
  split at hb
  ·cases hb
   have:=h.size
   exact⟨by omega,by omega⟩
  have:=h.Dj b M hb
  exact⟨by omega,this.2⟩
 ·rw[Dm]at hC
  unfold Bb at hb
  by_cases e':b=S.size
  ·rw[if_pos e']at hb hC
   cases hb;cases hC
   exact hB
  rw[if_neg e']at hb hC
  exact(h.Bn b M C hb hC).mono GI
 ·rw[Dm]at hC
  unfold Bb at hb
  by_cases e':b=S.size
  ·rw[if_pos e']at hb hC
   cases hC
   cases hm
  rw[if_neg e']at hb hC
  refine⟨(h.own b M C hb hC hm).1,fun b' L' B' Bj FG EC Ac=>?_⟩
  rw[Dm]at EC
  unfold Bb at Bj
  by_cases e2:b'=S.size
  ·rw[if_pos e2]at Bj
   cases Bj
   have:=(h.own b M C hb hC hm).1
   omega
  rw[if_neg e2]at Bj EC
  exact(h.own b M C hb hC hm).2 b' L' B' Bj FG EC Ac
 have:=h.no b hb
 refine⟨?_,by show b<S.size+1;omega⟩
 unfold Bb
 rw[if_neg (by omega)]
 exact this.1
end Go.Cm
namespace Go.Cm
open Go
def AM':Value→Bool
 | .bool _=>true
 | .int _ _=>true
 | .string _=>true
 |_=>false
mutual
def AJ7:Nat→Value→Value→Option (List (Nat×Nat))
 |0,_,_=>none
 |_+1,.slice (some ⟨b1,o1,none⟩) n1 c1,.slice (some ⟨b,o,none⟩) n2 c2=>bif Nat.beq o1 o&&(Nat.beq n1 n2&&Nat.beq c1 c2)then some [(b1,b)]else none
 |_+1,.slice none 0 0,.slice none 0 0=>some []
 |n+1,.agg a,.agg b=>zL n a.toList b.toList
 |_+1,x,y=>bif AM' x&&CP 1000 x y then some []else none
def zL:Nat→List Value→List Value→Option (List (Nat×Nat))
 |0,_,_=>none
 |_+1,[],[]=>some []
 |n+1,x::l,y::r=>match AJ7 n x y,zL n l r with
  |some p,some q=>some (p++q)
  |_,_=>none
 |_+1,_,_=>none
end
end Go.Cm
namespace Go.Cm
open Go
variable{P:Program}{w0:Bi}{K:BX}
theorem ABT{W:World}{f:FuncId}{v:Value}{S:St}(h:∀w,Kept W w→Calls P f #[] w fun e w'=>e= .returned v∧Kept w w') :
  ∀(w0:Bi) (ρ:AI) (w:World) (args':Array Value),w0.toWorld=W→AW P w0 ρ S w→AS ρ [] args'.toList→Calls P f args' w fun e w'=>e= .returned v∧Kept w w':=by
 intro w0 ρ w args' e hs hv
 subst e
 have:args'= #[]:=by
  apply Array.ext'
  simpa using hv.HR
 subst this
 exact h w hs.kept
end Go.Cm
namespace Go.Cm
open Go
variable{P:Program}{K:BX}
theorem Flat.eq{ρ:AI}{v:Value}(h:Flat v):∀{v':Value},VR ρ v v'→v'=v:=by
 induction h with
 |func f =>
  intro v' k
  cases k with
  |func _ ha h1 hc h2 =>
   rw[List.length_eq_zero_iff.1 ha.symm,List.length_eq_zero_iff.1 hc.symm]
 |iface t _ i=>intro v' k;cases k with|iface _ h=>rw[i h]
 |agg _ i =>
  rename_i a _
  intro v' k
  cases k with
  |agg ha h =>
   rename_i a'
   congr 2
   apply List.ext_getElem?;intro j
   cases e:a[j]? with
   |none=>rw[List.getElem?_eq_none_iff]at e ⊢;omega
   |some x =>
    have hj:j<a'.length:=ha▸(List.getElem?_eq_some_iff.1 e).1
    rw[List.getElem?_eq_getElem hj,i j x e (h j x _ e (List.getElem?_eq_getElem hj))]
 |tuple _ i =>
  rename_i a _
  intro v' k
  cases k with
  |tuple ha h =>
   rename_i a'
   congr 2
   apply List.ext_getElem?;intro j
   cases e:a[j]? with
   |none=>rw[List.getElem?_eq_none_iff]at e ⊢;omega
   |some x =>
    have hj:j<a'.length:=ha▸(List.getElem?_eq_some_iff.1 e).1
    rw[List.getElem?_eq_getElem hj,i j x e (h j x _ e (List.getElem?_eq_getElem hj))]
 |_=>intro v' k;cases k;rfl
theorem tP{ρ:AI}:∀{l l':List Value},l.all (Dx 40)=true→AS ρ l l'→l'=l
 | [],_,_,h=>h.HR
 |v::l,l',hf,h=>by
  rw[List.all_cons,Bool.and_eq_true]at hf
  obtain⟨v',k,rfl,h1,h2⟩:=h.cons_inv
  rw[(NX 40 v hf.1).eq h1,tP hf.2 h2]
theorem tQ(ρ:AI):∀{l:List Value},l.all (Dx 40)=true→AS ρ l l
 | [],_=>AS.nil
 |v::l,hf=>by
  rw[List.all_cons,Bool.and_eq_true]at hf
  exact AS.cons ((NX 40 v hf.1).refl ρ) (tQ ρ hf.2)
def zN(v:Value)(r:Option (Ending×St)):Bool:=match r with
 |some (.returned u,_)=>CP 100000 u v
 |_=>false
theorem AFi(hm:P.follows .mixedOrders=true){W:World}(hK:Jz P K W){n:Nat}{f:FuncId}{fn:Func}{c:Code}(hf:P.funcs[f]?=some fn)(hb:fn.body=some c)(Ch:(fn.name== "runtime.NumGoroutine")=false)
  {G:List (Nat×List Value)}{args:List Value}{v:Value}(ha:args.all (Dx 40)=true)(hv:Dx 40 v=true)(h:zN v ((NY P K n).call (.fn (.func f) #[]) args (Kb G P.globals.size))=true)(hn:P.globals.size≤W.heap.size)
  (hG:∀g l,(g,l)∈G→∃(arr:Array Value) (e:TypeId) (fz:Nat×Nat),W.heap[g]?=some (.cells arr e fz)∧arr.toList=l)(Iu:∀g l,(g,l)∈G→∀v∈l,Dx L8 v=true) :
  Calls P f ⟨args⟩ W fun e w=>e= .returned v∧Kept W w:=by
 rw[gL]at h
 cases hr:(fns P K n).call (.fn (.func f) #[]) args (Kb G P.globals.size)with
 |none=>rw[hr]at h;cases h
 |some x =>
  obtain⟨e,S'⟩:=x
  rw[hr]at h
  have LF:=oK (P:=P) hn hG Iu
  have:=(gM hm hK n n (Nat.le_refl _) (fun _=>false)).call _ _ _ _ _ hr _ W (.fn (.func f) #[]) ⟨args⟩ LF ⟨.func f,.func f, #[], #[],rfl,rfl,.func f rfl N9 rfl N9⟩ (tQ _ ha)
  have JZ:(invoke (.fn (.func f) #[]) ⟨args⟩).run P W= .ok (.enter f ⟨args⟩) W:=by
   have:=Ph hf hb Ch ⟨args⟩ W
   simpa [invoke]using this
  rw[JZ]at this
  refine(callsIn_wide.1 this).mono ?_
  rintro e' w ⟨ρ',_,h2,h3⟩
  have hk:=h3.kept
  cases h2 with
  |ret hu =>
   have:=Pj _ _ _ h
   subst this
   exact⟨by rw[(NX 40 _ hv).eq hu],hk⟩
  |Ab hp=>cases h
theorem AFh{W:World}{f:FuncId}{v:Value}{S:St}{args:List Value}(ha:args.all (Dx 40)=true)(h:∀w,Kept W w→Calls P f ⟨args⟩ w fun e w'=>e= .returned v∧Kept w w') :
  ∀(w0:Bi) (ρ:AI) (w:World) (args':Array Value),w0.toWorld=W→AW P w0 ρ S w→AS ρ args args'.toList→Calls P f args' w fun e w'=>e= .returned v∧Kept w w':=by
 intro w0 ρ w args' e hs hv
 subst e
 have:args'=⟨args⟩:=by
  apply Array.ext'
  exact tP ha hv
 subst this
 exact h w hs.kept
end Go.Cm

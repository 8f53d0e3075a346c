/-
  The evaluator of the model, and that it is sound: part 6.
-/
import Derived.Test.YtmfphenhpkgidaaGreatDoorSy1
namespace Go.Cm
open Go
variable{P:Program}{K:Known}
def st1(ops:List Oper)(i:Nat)(L:Env)(n:Nat):Option (Oper×Nat):=match nth ops i with
 |some o=>match wantE ops L o with
  |some true=>match o.dst with
   |some d=>bif Nat.blt d n then some (o,d)else none
   |none=>none
  |_=>none
 |none=>none
def pv(L:Env)(op:Op):Option Value:=match op with
 | .move x=>evE L x
 | .assign x=>evE L x
 | .extract x j=>match evE L x with
  |some (.tuple vs)=>nth vs.toList j
  |_=>none
 | .pick c x y=>match evE L c with
  |some (.bool true)=>evE L x
  |some (.bool false)=>evE L y
  |_=>none
 |_=>none
def stV(ops:List Oper)(i:Nat)(L:Env)(n:Nat):Option (Nat×Value):=match st1 ops i L n with
 |some (o,d)=>match pv L o.op with
  |some v=>some (d,v)
  |none=>none
 |none=>none
def stP(ops:List Oper)(i:Nat)(L:Env)(n:Nat):Option Nat:=match nth ops i with
 |some o=>match wantE ops L o with
  |some false=>match o.dst with
   |some d=>bif Nat.blt d n then some d else none
   |none=>none
  |_=>none
 |none=>none
section
variable{n:Nat}{ro:Option Nat}{L:Env}{S S0:St}{Q:Post}{ops:List Oper}{i d:Nat}{o:Oper}
theorem st1_some(h:st1 ops i L n=some (o,d)):nth ops i=some o∧wantE ops L o=some true∧o.dst=some d∧Nat.blt d n=true:=by
 unfold st1 at h
 split at h
 ·rename_i o' h1
  split at h
  ·rename_i h2
   split at h
   ·rename_i d' h3
    cases hb:Nat.blt d' n with
    |true =>
     rw[hb]at h
     cases h
     exact⟨h1,h2,h3,hb⟩
    |false=>rw[hb]at h;cases h
   cases h
  cases h
 cases h
theorem stP_some(h:stP ops i L n=some d):∃o,nth ops i=some o∧wantE ops L o=some false∧o.dst=some d∧Nat.blt d n=true:=by
 unfold stP at h
 split at h
 ·rename_i o' h1
  split at h
  ·rename_i h2
   split at h
   ·rename_i d' h3
    cases hb:Nat.blt d' n with
    |true =>
     rw[hb]at h
     cases h
     exact⟨o',h1,h2,h3,hb⟩
    |false=>rw[hb]at h;cases h
   cases h
  cases h
 cases h
theorem pv_rd{v:Value}(h:pv L o.op=some v):Rd P n L S o v:=by
 unfold pv at h
 split at h
 ·rename_i x hop;exact rd_move hop h
 ·rename_i x hop;exact rd_assign hop h
 ·rename_i x j hop
  split at h
  ·rename_i vs hx;exact rd_extract hop hx h
  cases h
 ·rename_i c x y hop
  split at h
  ·rename_i hc;exact rd_pick_t hop hc h
  ·rename_i hc;exact rd_pick_f hop hc h
  cases h
 cases h
theorem stV_some{v:Value}(h:stV ops i L n=some (d,v)):∃o,st1 ops i L n=some (o,d)∧pv L o.op=some v:=by
 unfold stV at h
 split at h
 ·rename_i o' d' h1
  split at h
  ·rename_i v' h2;cases h;exact⟨o',h1,h2⟩
  cases h
 cases h
theorem rr{v:Value}(h:st1 ops i L n=some (o,d))(hr:Rd P n L S o v)(k:RE P K n ops (i+1) ((d,v)::L) S Q):RE P K n ops i L S Q :=
 re_rd (st1_some h).1 (st1_some h).2.1 (st1_some h).2.2.1 (st1_some h).2.2.2 hr k
theorem rm{v:Value}(h:stV ops i L n=some (d,v))(k:RE P K n ops (i+1) ((d,v)::L) S Q):RE P K n ops i L S Q:=by
 obtain⟨o,h1,h2⟩:=stV_some h
 exact rr h1 (pv_rd h2) k
theorem rz(h:stP ops i L n=some d)(k:RE P K n ops (i+1) ((d,undef)::L) S Q):RE P K n ops i L S Q:=by
 obtain⟨o,h1,h2,h3,h4⟩:=stP_some h
 exact re_pass h1 h2 h3 h4 k
theorem xg{c:Code}(h:(Nat.beq (pK c) 1&&constsOk P (pO c))=true)(k:RE P K n (pO c) 0 L S Q):XE P K n ro c L S Q:=by
 rw[Bool.and_eq_true]at h
 exact xp_region (of_nbeq h.1) h.2 k
theorem xs{c:Code}(h:(Nat.beq (pK c) 3&&(Nat.beq (pK (pA c)) 1&&constsOk P (pO (pA c))))=true)(k:RE P K n (pO (pA c)) 0 L S (Thn P K n ro (pB c) Q)):XE P K n ro c L S Q:=by
 rw[Bool.and_eq_true]at h
 exact xp_seq (of_nbeq h.1) (xg h.2 k)
theorem rl{Ts:List St}{l:List (Nat×Blk)}{gs:List Gr}(hl:HoldG S0 Ts S l gs)(k:Nat){t:TypeId}{x:Operand}{b off:Nat}{c:List Value}{e:TypeId}{row own:Bool}{kin:List Nat}{v:Value}(hop:o.op= .load t x)(hx:evE L x=some (ptrTo b off))(ha:aggOf P t=some false)
  (hk:nth l k=some (b,.cells c e row own kin))(hv:nth c off=some v):Rd P n L S o v:=rd_load hop hx (load1_of ha (hl.get k hk) hv)
def allSz(P:Program)(t:TypeId):Bool:=match P.underlying t with
 |some (.struct fs)=>fs.toList.all fun f=>hasSz P f.type
 |_=>false
theorem fa{t:TypeId}{fs:Array Field}(hu:P.underlying t=some (.struct fs))(ha:allSz P t=true){f:Field}{j b o:Nat}(hf:nth fs.toList j=some f):fieldAddrV P t (ptrTo b o) j=some (ptrTo b (o+f.offset)):=by
 unfold allSz at ha
 rw[hu]at ha
 exact fieldAddr_at hu hf (List.all_eq_true.1 ha f (nth_mem hf))
section
variable{bef:List Nat}{pl:List (Oper×Nat)}{q j:Nat}{E:List CkE}
def ps1(pl:List (Oper×Nat))(ops:List Oper)(q:Nat)(L:Env)(n:Nat)(w:Bool):Option (Oper×Nat×Nat):=match nth pl q with
 |some (o,j)=>match wantE ops L o with
  |some true=>match o.dst with
   |some d=>bif Nat.blt d n&&(looks o.op==w)then some (o,j,d)else none
   |none=>none
  |_=>none
 |none=>none
def psV(pl:List (Oper×Nat))(ops:List Oper)(q:Nat)(L:Env)(n:Nat):Option (Nat×Value):=match ps1 pl ops q L n false with
 |some (o,_,d)=>match pv L o.op with
  |some v=>some (d,v)
  |none=>none
 |none=>none
def psP(pl:List (Oper×Nat))(ops:List Oper)(q:Nat)(L:Env)(n:Nat):Option Nat:=match nth pl q with
 |some (o,_)=>match wantE ops L o with
  |some false=>match o.dst with
   |some d=>bif Nat.blt d n then some d else none
   |none=>none
  |_=>none
 |none=>none
theorem ps1_some{w:Bool}(h:ps1 pl ops q L n w=some (o,j,d)):nth pl q=some (o,j)∧wantE ops L o=some true∧o.dst=some d∧Nat.blt d n=true∧looks o.op=w:=by
 unfold ps1 at h
 split at h
 ·rename_i o' j' h1
  split at h
  ·rename_i h2
   split at h
   ·rename_i d' h3
    cases hb:(Nat.blt d' n&&(looks o'.op==w))with
    |true =>
     rw[hb]at h
     cases h
     rw[Bool.and_eq_true]at hb
     exact⟨h1,h2,h3,hb.1,by simpa using hb.2⟩
    |false=>rw[hb]at h;cases h
   cases h
  cases h
 cases h
theorem pr{v:Value}(h:ps1 pl ops q L n false=some (o,j,d))(hr:Rd P n L S o v)(k:RP P K n ops bef pl (q+1) E ((d,v)::L) S Q):RP P K n ops bef pl q E L S Q :=
 have⟨a,b,c,e,f⟩:=ps1_some h
 rp_rd a b c e f hr k
theorem pk{v:Value}(h:ps1 pl ops q L n true=some (o,j,d))(hr:Rd P n L S o v)(k:RP P K n ops bef pl (q+1) (⟨j,o.op,v,L,none⟩::E) ((d,v)::L) S Q):RP P K n ops bef pl q E L S Q :=
 have⟨a,b,c,e,f⟩:=ps1_some h
 rp_lk a b c e f hr k
theorem pm{v:Value}(h:psV pl ops q L n=some (d,v))(k:RP P K n ops bef pl (q+1) E ((d,v)::L) S Q):RP P K n ops bef pl q E L S Q:=by
 unfold psV at h
 split at h
 ·rename_i o' j' d' h1
  split at h
  ·rename_i v' h2;cases h;exact pr h1 (pv_rd h2) k
  cases h
 cases h
theorem pz(h:psP pl ops q L n=some d)(k:RP P K n ops bef pl (q+1) E ((d,undef)::L) S Q):RP P K n ops bef pl q E L S Q:=by
 unfold psP at h
 split at h
 ·rename_i o' j' h1
  split at h
  ·rename_i h2
   split at h
   ·rename_i d' h3
    cases hb:Nat.blt d' n with
    |true =>
     rw[hb]at h
     cases h
     exact rp_pass h1 h2 h3 hb k
    |false=>rw[hb]at h;cases h
   cases h
  cases h
 cases h
end
end
end Go.Cm
namespace Go.Cm
open Go
variable{P:Program}{K:Known}
section
variable{n:Nat}{ro:Option Nat}{L:Env}{S:St}{ds:List Deferred}{Q:PostD}{c:Code}
end
section
variable{n:Nat}{ro:Option Nat}{L:Env}{S S0:St}{Q:Post}{ops:List Oper}{i d:Nat}{o:Oper}{Ts:List St}{l:List (Nat×Blk)}
end
end Go.Cm
namespace Go.Cm
open Go
variable{P:Program}{w0:Base}
theorem mapM_some{α β:Type}{f:α→Option β}:∀{l:List α} {r:List β},l.mapM f=some r→r.length=l.length∧∀(i:Nat) (x:α),l[i]?=some x→∃y,f x=some y∧r[i]?=some y
 | [],r,h=>by
  simp only[List.mapM_nil,Option.pure_def,Option.some.injEq]at h
  subst h
  exact⟨rfl,fun i x hx=>by simp at hx⟩
 |a::l,r,h=>by
  rw[List.mapM_cons]at h
  obtain⟨y,hy,h⟩:=Option.mem_bind_iff.1 h
  obtain⟨ys,hys,h⟩:=Option.mem_bind_iff.1 h
  cases h
  obtain⟨h1,h2⟩:=mapM_some hys
  refine⟨by simp[h1],fun i x hx=>?_⟩
  cases i with
  |zero=>simp at hx;subst hx;exact⟨y,hy,rfl⟩
  |succ i=>simpa using h2 i x (by simpa using hx)
theorem cells_spec{w:World}{base:Nat}{a:Addr}{n:Nat}{cs:List Value}(h:w.cells? base a n=some cs)(hn:0<n) :
  ∃(arr:Array Value) (e:TypeId) (fz:Nat×Nat),w.heap[a.block]?=some (.cells arr e fz)∧a.spot=none∧a.off+n≤arr.size∧cs=(arr.toList.drop a.off).take n:=by
 unfold World.cells? at h
 split at h
 ·obtain⟨h1,h2⟩:=mapM_some h
  have hl:cs.length=n:=by simpa using h1
  have each:∀i,i<n→∃(arr:Array Value) (e:TypeId) (fz:Nat×Nat),w.heap[a.block]?=some (.cells arr e fz)∧(a.add i).spot=none∧∃v,arr[a.off+i]?=some v∧cs[i]?=some v:=by
   intro i hi
   obtain⟨y,hy,hc⟩:=h2 i i (by simp[hi])
   unfold World.cell? at hy
   have hb:(a.add i).block=a.block:=by unfold Addr.add;split<;>rfl
   have ho:(a.add i).off=a.off+i:=by
    unfold Addr.add
    split
    ·rename_i e;subst e;rfl
    rfl
   rw[hb,ho]at hy
   split at hy
   ·rename_i arr e fz hh
    split at hy
    ·cases hy
    rename_i hs
    exact⟨arr,e,fz,hh,by simpa using hs,y,hy,hc⟩
   cases hy
  obtain⟨arr,e,fz,hh,hs,_⟩:=each 0 hn
  have hs':a.spot=none:=hs
  refine⟨arr,e,fz,hh,hs',?_,?_⟩
  ·obtain⟨arr2,e2,fz2,hh2,_,v,hv,_⟩:=each (n-1) (by omega)
   rw[hh]at hh2
   cases hh2
   have:=(Array.getElem?_eq_some_iff.1 hv).1
   omega
  apply List.ext_getElem?
  intro i
  rw[List.getElem?_take]
  by_cases hi:i<n
  ·obtain⟨arr2,e2,fz2,hh2,_,v,hv,hc⟩:=each i hi
   rw[hh]at hh2
   cases hh2
   rw[if_pos hi,hc,List.getElem?_drop,Array.getElem?_toList,hv]
  rw[if_neg hi,List.getElem?_eq_none (by omega)]
 cases h
def plainT(P:Program):Nat→TypeId→Bool
 |0,_=>false
 |n+1,t=>match P.underlying t with
  |some .bool=>true
  |some (.int _)=>true
  |some .string=>true
  |some (.slice e)=>plainT P n e&&(Nat.blt 0 (P.cellsOf e)&&(match szOf P e with|some z=>Nat.beq z (P.cellsOf e)|none=>false))
  |some (.struct fs)=>contigF P (P.cellsOf t) fs.toList 0&&fs.toList.all fun f=>plainT P n f.type
  |some (.array m e)=>Nat.beq (P.cellsOf t) (m*P.cellsOf e)&&plainT P n e
  |_=>false
def Rep(P:Program):Nat→TypeId→St→List Value→Prop
 |0,_,_,_=>False
 |n+1,t,S,c=>match P.underlying t with
  |some .bool=>∃b,c= [.bool b]
  |some (.int k)=>∃m,c= [.int k m]∧(Lit.int k m).wf=true
  |some .string=>∃s:ByteArray,c= [.string s]∧s.size≤maxLen
  |some (.slice e)=>c= [.slice none 0 0]∨(∃b o k,c= [.slice (some ⟨b,o,some k⟩) 0 0]) ∨
   ∃b len cs,c= [.slice (some ⟨b,0,none⟩) len len]∧b<S.size∧S.get b=some (.cells cs e true false [])∧cs.length=len*P.cellsOf e∧len≤maxLen∧∀i,i<len→Rep P n e S ((cs.drop (i*P.cellsOf e)).take (P.cellsOf e))
  |some (.struct fs)=>c.length=P.cellsOf t∧∀f,f∈fs.toList→Rep P n f.type S ((c.drop f.offset).take (P.cellsOf f.type))
  |some (.array m e)=>c.length=P.cellsOf t∧∀i,i<m→Rep P n e S ((c.drop (i*P.cellsOf e)).take (P.cellsOf e))
  |_=>False
theorem Rep.keep{S T:St}(h:Keep S T):∀(n:Nat) (t:TypeId) (c:List Value),Rep P n t S c→Rep P n t T c
 |0,_,_,h=>h
 |n+1,t,c,hr=>by
  unfold Rep at hr ⊢
  split
  ·rename_i hu;rw[hu]at hr;exact hr
  ·rename_i hu;rw[hu]at hr;exact hr
  ·rename_i hu;rw[hu]at hr;exact hr
  ·rename_i e hu
   rw[hu]at hr
   rcases hr with hr|hr|⟨b,len,cs,h1,h2,h3,h4,h5,h6⟩
   ·exact .inl hr
   ·exact .inr (.inl hr)
   exact .inr (.inr ⟨b,len,cs,h1,Nat.lt_of_lt_of_le h2 h.1,by rw[h.2 b h2];exact h3,h4,h5,fun i hi=>Rep.keep h n e _ (h6 i hi)⟩)
  ·rename_i fs hu
   rw[hu]at hr
   exact⟨hr.1,fun f hf=>Rep.keep h n _ _ (hr.2 f hf)⟩
  ·rename_i m e hu
   rw[hu]at hr
   exact⟨hr.1,fun i hi=>Rep.keep h n _ _ (hr.2 i hi)⟩
  rename_i h1 h2 h3 h4 h5 h6
  cases hu:P.underlying t with
  |none=>rw[hu]at hr;exact hr
  |some d =>
   rw[hu]at hr
   cases d<;>first
    |exact hr
    |exact absurd hu h1
    |exact absurd hu (h2 _)
    |exact absurd hu h3
    |exact absurd hu (h4 _)
    |exact absurd hu (h5 _)
    |exact absurd hu (h6 _ _)
theorem VRs.length{ρ:Rmap}{a b:List Value}(h:VRs ρ a b):a.length=b.length:=h.1
theorem take_succ_mul{α:Type}(l:List α)(k z:Nat):l.take ((k+1)*z)=l.take (k*z)++(l.drop (k*z)).take z:=by
 rw[Nat.succ_mul,List.take_add]
section
variable{H:Type}{enc:TypeId×Value→H}{sp:Nat→Bool}{held:Bool}
theorem lay:∀(n:Nat) (t:TypeId) (fuel:Nat) (cs:List Value) (d:DataW H) (p:List MemPlace),plainT P n t=true→(∀b,sp b=true)→DataW.trod enc P w0.toWorld 0 sp held fuel t cs=some (d,p) →
  ∀(ρ:Rmap) (S:St),Sim P w0 ρ S w0.toWorld→∃ρ' S' c,Ext ρ ρ'∧Sim P w0 ρ' S' w0.toWorld∧Keep S S'∧VRs ρ' c cs∧Rep P n t S' c
 |0,t,fuel,cs,d,p,hp,_,h,ρ,S,hs=>by cases hp
 |n+1,t,0,cs,d,p,hp,_,h,ρ,S,hs=>by simp[DataW.trod]at h
 |n+1,t,fuel+1,cs,d,p,hp,hsp,h,ρ,S,hs=>by
  unfold plainT at hp
  split at hp
  ·rename_i hu
   simp only[DataW.trod,hu]at h
   split at h
   all_goals first|(simp_all;done)|skip
   refine⟨ρ,S,[.bool _],Ext.refl _,hs,Keep.refl _,VRs.cons (.bool _) .nil,?_⟩
   unfold Rep
   rw[hu]
   exact⟨_,rfl⟩
  ·rename_i k hu
   simp only[DataW.trod,hu]at h
   split at h
   all_goals first|(simp_all;done)|skip
   rename_i k' m
   split at h
   ·rename_i hk
    obtain⟨rfl,hwf⟩:=hk
    refine⟨ρ,S,[.int _ _],Ext.refl _,hs,Keep.refl _,VRs.cons (.int _ _) .nil,?_⟩
    unfold Rep
    simp_all
   cases h
  ·rename_i hu
   simp only[DataW.trod,hu]at h
   split at h
   all_goals first|(simp_all;done)|skip
   rename_i s
   split at h
   ·rename_i hle
    refine⟨ρ,S,[.string _],Ext.refl _,hs,Keep.refl _,VRs.cons (.string _) .nil,?_⟩
    unfold Rep
    simp_all
   cases h
  ·rename_i e hu
   simp only[Bool.and_eq_true]at hp
   obtain⟨hp1,hp2,hp3⟩:=hp
   have hz:=nblt_tt hp2
   have hsz:szOf P e=some (P.cellsOf e):=by
    split at hp3
    ·rename_i z hz';rw[hz',of_nbeq hp3]
    cases hp3
   generalize hzz:P.cellsOf e=z at *
   simp only[DataW.trod,hu]at h
   split at h
   all_goals first|(simp_all;done)|skip
   ·-- nil
    refine⟨ρ,S,[.slice none 0 0],Ext.refl _,hs,Keep.refl _,VRs.cons .snil .nil,?_⟩
    unfold Rep
    simp_all
   rename_i a len cap he
   cases he
   simp only[hzz]at h
   split at h
   ·rename_i hle
    obtain⟨els,hels,h⟩:=Option.mem_bind_iff.1 h
    obtain⟨rest,hrest,h⟩:=Option.map_eq_some_iff.1 h
    rw[if_pos (hsp _)]at hrest
    obtain⟨e1,e2⟩:=mapM_some hels
    obtain⟨r1,r2⟩:=mapM_some hrest
    by_cases hc0:cap=0
    ·obtain rfl:len=0:=by omega
     subst hc0
     refine⟨ρ,S,[.slice (some ⟨0,0,some 0⟩) 0 0],Ext.refl _,hs,Keep.refl _,VRs.cons (.szero _ _ _ _) .nil,?_⟩
     unfold Rep
     rw[hu]
     exact .inr (.inl ⟨0,0,0,rfl⟩)
    -- the row lies in memory
    have helem:∀i,i<cap→∃csi,w0.toWorld.cells? 0 (a.add (i*z)) z=some csi∧∃d' p',DataW.trod enc P w0.toWorld 0 sp held fuel e csi=some (d',p'):=by
     intro i hi
     by_cases hil:i<len
     ·obtain⟨y,hy,_⟩:=e2 i i (by simp[hil])
      obtain⟨csi,h1,h2⟩:=Option.bind_eq_some_iff.1 hy
      exact⟨csi,h1,y.1,y.2,h2⟩
     obtain⟨y,hy,_⟩:=r2 (i-len) (i-len) (List.getElem?_range (by omega))
     obtain⟨csi,h1,h2⟩:=Option.bind_eq_some_iff.1 hy
     rw[show len+(i-len)=i by omega]at h1
     exact⟨csi,h1,y.1,y.2,h2⟩
    obtain⟨cs0,q0,_⟩:=helem 0 (by omega)
    obtain⟨arr,e',fz,hh,hspot,_,_⟩:=cells_spec q0 hz
    have hblk:(a.add (0*z))=a:=by simp[Addr.add]
    rw[hblk]at hh hspot
    have hadd:∀i,(a.add (i*z)).block=a.block∧(a.add (i*z)).off=a.off+i*z:=by
     intro i
     unfold Addr.add
     split
     ·rename_i e0;rw[e0];exact⟨rfl,rfl⟩
     exact⟨rfl,rfl⟩
    have hroom:a.off+cap*z≤arr.size:=by
     obtain⟨csi,h1,_⟩:=helem (cap-1) (by omega)
     obtain⟨arr2,e2',fz2,hh2,_,hle2,_⟩:=cells_spec h1 hz
     rw[(hadd _).1,hh]at hh2
     cases hh2
     rw[(hadd _).2]at hle2
     have:(cap-1)*z+z=cap*z:=by rw[←Nat.succ_mul];congr 1;omega
     omega
    have rows:∀k,k≤len→∃ρ' S' c,Ext ρ ρ'∧Sim P w0 ρ' S' w0.toWorld∧Keep S S'∧VRs ρ' c ((arr.toList.drop a.off).take (k*z))∧c.length=k*z∧∀i,i<k→Rep P n e S' ((c.drop (i*z)).take z):=by
     intro k
     induction k with
     |zero=>intro _;exact⟨ρ,S,[],Ext.refl _,hs,Keep.refl _,by simpa using VRs.nil,by simp,fun i hi=>by omega⟩
     |succ k ih =>
      intro hk
      obtain⟨ρ1,S1,c1,x1,x2,x3,x4,x5,x6⟩:=ih (by omega)
      obtain⟨csi,h1,d',p',h2⟩:=helem k (by omega)
      obtain⟨arr2,e2',fz2,hh2,_,hle2,hcs⟩:=cells_spec h1 hz
      rw[(hadd _).1,hh]at hh2
      cases hh2
      rw[(hadd _).2]at hcs
      obtain⟨ρ2,S2,c2,y1,y2,y3,y4,y5⟩:=lay n e fuel csi d' p' hp1 hsp h2 ρ1 S1 x2
      have hl2:c2.length=z:=by
       rw[y4.length,hcs,List.length_take,List.length_drop,Array.length_toList]
       rw[(hadd _).2]at hle2
       omega
      refine⟨ρ2,S2,c1++c2,x1.trans y1,y2,x3.trans y3,?_,by rw[List.length_append,x5,hl2,Nat.succ_mul],fun i hi=>?_⟩
      ·rw[take_succ_mul]
       refine VRs.append (x4.mono y1) ?_
       rw[List.drop_drop,←hcs]
       exact y4
      by_cases hik:i<k
      ·have hle3:i*z+z≤k*z:=by rw[←Nat.succ_mul];exact Nat.mul_le_mul_right _ hik
       rw[List.drop_append_of_le_length (by omega),List.take_append_of_le_length (by rw[List.length_drop];omega)]
       exact Rep.keep y3 n e _ (x6 i hik)
      obtain rfl:i=k:=by omega
      rw[←x5,List.drop_left,←hl2,List.take_length]
      exact y5
    obtain⟨ρ1,S1,c1,x1,x2,x3,x4,x5,x6⟩:=rows len (Nat.le_refl _)
    have hlt:a.block<w0.heap.size:=(Array.getElem?_eq_some_iff.1 hh).1
    have hnone:ρ1 S1.size=none:=by
     cases hx:ρ1 S1.size with
     |none=>rfl
     |some M=>exact absurd (x2.dom _ _ hx).1 (Nat.lt_irrefl _)
    have hv:=x2.view (c:=c1) (e:=e) (L:=⟨a.block,a.off,arr.size,z⟩) hlt ⟨arr,e',fz,hh,rfl,fun i v hiv=>?_,(fun h=>nomatch h),fun _=>hsz,(fun h=>nomatch h),fun h=>h.elim (fun h=>nomatch h) (fun h=>nomatch h)⟩
    ·refine⟨_,_,[.slice (some ⟨S1.size,0,none⟩) len len],x1.trans hv.1,hv.2,x3.trans (Keep.new _ _),VRs.cons ?_ .nil,?_⟩
     ·obtain⟨bb,oo,ss⟩:=a
      simp only at hspot
      subst hspot
      exact VR.slice (L:=⟨bb,oo,arr.size,z⟩) (upd_same _ _ _) (Nat.le_refl _) hle.2.1 (fun _=>hroom) (.inl (by simp))
     unfold Rep
     rw[hu]
     refine .inr (.inr ⟨S1.size,len,c1,rfl,Nat.lt_succ_self _,get_new _ _,by rw[hzz];exact x5,by have:=hle.2;omega,fun i hi=>?_⟩)
     rw[hzz]
     exact Rep.keep (Keep.new _ _) n e _ (x6 i hi)
    obtain⟨v',q1,q2⟩:=x4.get hiv
    rw[List.getElem?_take]at q1
    split at q1
    ·rw[List.getElem?_drop,Array.getElem?_toList]at q1
     exact⟨v',q1,q2.mono (ext_upd _ hnone)⟩
    cases q1
   cases h
  ·rename_i fs hu
   simp only[Bool.and_eq_true,List.all_eq_true]at hp
   obtain⟨hp1,hp2⟩:=hp
   simp only[DataW.trod,hu]at h
   split at h
   ·rename_i hlen
    obtain⟨xs,hm,_⟩:=Option.map_eq_some_iff.1 h
    obtain⟨m1,m2⟩:=mapM_some hm
    -- field by field
    have fields:∀(gs:List Field) (o:Nat),contigF P (P.cellsOf t) gs o=true→(∀f,f∈gs→f∈fs.toList)→∀(ρ1:Rmap) (S1:St),Sim P w0 ρ1 S1 w0.toWorld →
      ∃ρ' S' c,Ext ρ1 ρ'∧Sim P w0 ρ' S' w0.toWorld∧Keep S1 S'∧VRs ρ' c (cs.drop o)∧∀f,f∈gs→o≤f.offset∧Rep P n f.type S' ((c.drop (f.offset-o)).take (P.cellsOf f.type)):=by
     intro gs
     induction gs with
     |nil =>
      intro o hc _ ρ1 S1 hs1
      refine⟨ρ1,S1,[],Ext.refl _,hs1,Keep.refl _,?_,fun f hf=>by simp at hf⟩
      rw[of_nbeq hc,←hlen,List.drop_length]
      exact VRs.nil
     |cons g gs ih =>
      intro o hc hin ρ1 S1 hs1
      simp only[contigF,Bool.and_eq_true]at hc
      have ho:=of_nbeq hc.1
      obtain⟨i,hi⟩:=List.getElem?_of_mem (hin g (by simp))
      obtain⟨y,hy,_⟩:=m2 i g hi
      obtain⟨ρ2,S2,c2,y1,y2,y3,y4,y5⟩:=lay n g.type fuel _ y.1 y.2 (hp2 g (hin g (by simp))) hsp hy ρ1 S1 hs1
      obtain⟨ρ3,S3,c3,z1,z2,z3,z4,z5⟩:=ih (o+P.cellsOf g.type) hc.2 (fun f hf=>hin f (by simp[hf])) ρ2 S2 y2
      have hcl:c2.length=min (P.cellsOf g.type) (cs.length-o):=by rw[y4.length,List.length_take,List.length_drop,ho]
      refine⟨ρ3,S3,c2++c3,y1.trans z1,z2,y3.trans z3,?_,fun f hf=>?_⟩
      ·have e1:cs.drop o=(cs.drop o).take (P.cellsOf g.type)++cs.drop (o+P.cellsOf g.type):=by
        rw[←List.drop_drop,List.take_append_drop]
       rw[e1]
       rw[ho]at y4
       exact VRs.append (y4.mono z1) z4
      rcases List.mem_cons.1 hf with rfl|hf
      ·refine⟨Nat.le_of_eq ho.symm,?_⟩
       rw[ho,Nat.sub_self,List.drop_zero]
       have hfit:c2.length=P.cellsOf f.type:=by
        have hle:o+P.cellsOf f.type≤P.cellsOf t:=by
         clear ih hin z5
         have:∀(gs:List Field) (o:Nat),contigF P (P.cellsOf t) gs o=true→o≤P.cellsOf t:=by
          intro gs
          induction gs with
          |nil=>intro o h;exact Nat.le_of_eq (of_nbeq h)
          |cons g gs ih =>
           intro o h
           simp only[contigF,Bool.and_eq_true]at h
           have:=ih _ h.2
           omega
         exact this gs _ hc.2
        rw[hcl,hlen]
        omega
       rw[←hfit,List.take_left]
       exact Rep.keep z3 n _ _ (by
        have:=y5
        rwa []at this)
      obtain⟨q1,q2⟩:=z5 f hf
      refine⟨by omega,?_⟩
      have hfit:c2.length≤f.offset-o:=by rw[hcl];omega
      have hfit2:c2.length=P.cellsOf g.type∨c3= []:=by
       by_cases hle:P.cellsOf g.type≤cs.length-o
       ·left;rw[hcl];omega
       right
       have:=z4.length
       rw[List.length_drop]at this
       exact List.eq_nil_of_length_eq_zero (by omega)
      rcases hfit2 with e3|e3
      ·rw[List.drop_append,List.drop_eq_nil_of_le hfit,List.nil_append,e3]
       rw[show f.offset-o-P.cellsOf g.type=f.offset-(o+P.cellsOf g.type) by omega]
       exact q2
      subst e3
      rw[List.append_nil,List.drop_eq_nil_of_le hfit]
      rw[List.drop_nil]at q2
      exact q2
    obtain⟨ρ',S',c,x1,x2,x3,x4,x5⟩:=fields fs.toList 0 hp1 (fun f hf=>hf) ρ S hs
    rw[List.drop_zero]at x4
    refine⟨ρ',S',c,x1,x2,x3,x4,?_⟩
    unfold Rep
    rw[hu]
    refine⟨by rw[x4.length,hlen],fun f hf=>?_⟩
    have:=(x5 f hf).2
    rwa [Nat.sub_zero]at this
   cases h
  ·rename_i m e hu
   simp only[Bool.and_eq_true]at hp
   have hsz:=of_nbeq hp.1
   simp only[DataW.trod,hu]at h
   split at h
   ·rename_i hlen
    obtain⟨xs,hm,_⟩:=Option.map_eq_some_iff.1 h
    obtain⟨m1,m2⟩:=mapM_some hm
    generalize hzz:P.cellsOf e=z at *
    have rows:∀k,k≤m→∃ρ' S' c,Ext ρ ρ'∧Sim P w0 ρ' S' w0.toWorld∧Keep S S'∧VRs ρ' c (cs.take (k*z))∧c.length=k*z∧∀i,i<k→Rep P n e S' ((c.drop (i*z)).take z):=by
     intro k
     induction k with
     |zero=>intro _;exact⟨ρ,S,[],Ext.refl _,hs,Keep.refl _,by simpa using VRs.nil,by simp,fun i hi=>by omega⟩
     |succ k ih =>
      intro hk
      obtain⟨ρ1,S1,c1,x1,x2,x3,x4,x5,x6⟩:=ih (by omega)
      obtain⟨y,hy,_⟩:=m2 k k (List.getElem?_range (by omega))
      obtain⟨ρ2,S2,c2,y1,y2,y3,y4,y5⟩:=lay n e fuel _ y.1 y.2 hp.2 hsp hy ρ1 S1 x2
      have hle3:k*z+z≤m*z:=by rw[←Nat.succ_mul];exact Nat.mul_le_mul_right _ hk
      have hl2:c2.length=z:=by
       rw[y4.length,List.length_take,List.length_drop]
       omega
      refine⟨ρ2,S2,c1++c2,x1.trans y1,y2,x3.trans y3,?_,by rw[List.length_append,x5,hl2,Nat.succ_mul],fun i hi=>?_⟩
      ·rw[take_succ_mul]
       exact VRs.append (x4.mono y1) y4
      by_cases hik:i<k
      ·have hle3:i*z+z≤k*z:=by rw[←Nat.succ_mul];exact Nat.mul_le_mul_right _ hik
       rw[List.drop_append_of_le_length (by omega),List.take_append_of_le_length (by rw[List.length_drop];omega)]
       exact Rep.keep y3 n e _ (x6 i hik)
      obtain rfl:i=k:=by omega
      rw[←x5,List.drop_left,←hl2,List.take_length]
      exact y5
    obtain⟨ρ',S',c,x1,x2,x3,x4,x5,x6⟩:=rows m (Nat.le_refl _)
    rw[List.take_of_length_le (by omega)]at x4
    refine⟨ρ',S',c,x1,x2,x3,x4,?_⟩
    unfold Rep
    rw[hu]
    refine⟨by rw[x5,hsz],fun i hi=>?_⟩
    rw[hzz]
    exact x6 i hi
   cases h
  cases hp
end
end Go.Cm
namespace Go.Cm
open Go
variable{P:Program}{K:Known}
theorem calls_of_cc(hm:P.follows .mixedOrders=true){W:World}(hK:KnownSound P K W){f:FuncId}{fn:Func}{c:Code}(hf:P.funcs[f]?=some fn)(hb:fn.body=some c)(hnm:(fn.name== "runtime.NumGoroutine")=false)
  {args:List Value}{args':Array Value}{ρ:Rmap}{S:St}(hs:Sim P ⟨W,fun _=>false⟩ ρ S W)(hv:VRs ρ args args'.toList){Q:Value→Prop}(h:CC P K f args S fun v _=>Q v) :
  Calls P f args' W fun e w=>∃v ρ' v',Q v∧VR ρ' v v'∧e= .returned v'∧Kept W w:=by
 obtain⟨m,v,S',h1,h2⟩:=h
 have hcall0:(fns P K (m+1)).call (.fn (.func f) #[]) args S=some (.returned v,S'):=by
  show enterF P K (fns P K m) f (args++(#[]:Array Value).toList) S=_
  simpa using h1
 have:=(fns_sound hm hK (m+1) (m+1) (Nat.le_refl _) (fun _=>false)).call _ _ _ _ _ hcall0 ρ W (.fn (.func f) #[]) args' hs ⟨.func f,.func f, #[], #[],rfl,rfl,.func f rfl nil_all rfl nil_all⟩ hv
 have hcall:(invoke (.fn (.func f) #[]) args').run P W= .ok (.enter f args') W:=by
  have:=run_callFunc hf hb hnm args' W
  simpa [invoke]using this
 rw[hcall]at this
 refine(callsIn_wide.1 this).mono ?_
 rintro e' w ⟨ρ',_,q2,q3⟩
 cases q2 with
 |ret hvr=>exact⟨v,ρ',_,h2,hvr,rfl,q3.kept⟩
theorem mapM_congr{α β:Type}{f g:α→Option β}:∀{l:List α} {r:List β},l.mapM f=some r→(∀x,x∈l→∀y,f x=some y→g x=some y)→l.mapM g=some r
 | [],r,h,_=>by simpa using h
 |a::l,r,h,hc=>by
  rw[List.mapM_cons]at h ⊢
  obtain⟨y,hy,h⟩:=Option.mem_bind_iff.1 h
  obtain⟨ys,hys,h⟩:=Option.mem_bind_iff.1 h
  cases h
  rw[hc a (by simp) y hy,mapM_congr hys fun x hx=>hc x (by simp[hx])]
  rfl
theorem cell_kept{W W':World}(h:Kept W W'){a:Addr}{v:Value}(hc:W.cell? a=some v):W'.cell? a=some v:=by
 have hb:a.block<W.heap.size:=by
  rcases Nat.lt_or_ge a.block W.heap.size with h1|h1
  ·exact h1
  unfold World.cell? at hc
  simp only[Array.getElem?_eq_none h1]at hc
  cases hc
 unfold World.cell? at hc ⊢
 rw[h.old _ hb]
 exact hc
theorem cells_kept{W W':World}(h:Kept W W'){base n:Nat}{a:Addr}{cs:List Value}(hc:W.cells? base a n=some cs):W'.cells? base a n=some cs:=by
 unfold World.cells? at hc ⊢
 split at hc
 ·rename_i hb
  rw[if_pos hb]
  exact mapM_congr hc fun x _ y hy=>cell_kept h hy
 cases hc
section
variable{H:Type}{enc:TypeId×Value→H}{held:Bool}{W W':World}
theorem retrod(hk:Kept W W'):∀(n:Nat) (t:TypeId) (fuel:Nat) (cs:List Value) (r:DataW H×List MemPlace),plainT P n t=true→DataW.trod enc P W 0 (fun _=>true) held fuel t cs=some r →
  DataW.trod enc P W' 0 (fun b=>decide (b<W.heap.size)) held fuel t cs=some r
 |0,t,fuel,cs,r,hp,h=>by cases hp
 |n+1,t,0,cs,r,hp,h=>by simp[DataW.trod]at h
 |n+1,t,fuel+1,cs,r,hp,h=>by
  unfold plainT at hp
  split at hp
  ·rename_i hu
   simp only[DataW.trod,hu]at h ⊢
   split at h
   all_goals first|(simp_all;done)|skip
  ·rename_i k hu
   simp only[DataW.trod,hu]at h ⊢
   split at h
   all_goals first|(simp_all;done)|skip
  ·rename_i hu
   simp only[DataW.trod,hu]at h ⊢
   split at h
   all_goals first|(simp_all;done)|skip
  ·rename_i e hu
   simp only[Bool.and_eq_true]at hp
   have hz:=nblt_tt hp.2.1
   simp only[DataW.trod,hu]at h ⊢
   split at h
   all_goals first|(simp_all;done)|skip
   rename_i a len cap he
   cases he
   split at h
   ·rename_i hle
    rw[if_pos hle]
    obtain⟨els,hels,h⟩:=Option.mem_bind_iff.1 h
    obtain⟨rest,hrest,h⟩:=Option.map_eq_some_iff.1 h
    have each:∀(i:Nat) (y:DataW H×List MemPlace),(W.cells? 0 (a.add (i*P.cellsOf e)) (P.cellsOf e)).bind (DataW.trod enc P W 0 (fun _=>true) held fuel e)=some y →
      (W'.cells? 0 (a.add (i*P.cellsOf e)) (P.cellsOf e)).bind (DataW.trod enc P W' 0 (fun b=>decide (b<W.heap.size)) held fuel e)=some y:=by
     intro i y hy
     obtain⟨csi,h1,h2⟩:=Option.bind_eq_some_iff.1 hy
     rw[cells_kept hk h1]
     exact retrod hk n e fuel csi y hp.1 h2
    rw[if_pos trivial]at hrest
    refine Option.mem_bind_iff.2 ⟨els,mapM_congr hels fun i _ y hy=>each i y hy,?_⟩
    refine Option.map_eq_some_iff.2 ⟨rest,?_,h⟩
    by_cases hb:a.block<W.heap.size
    ·rw[if_pos (by simpa using hb)]
     exact mapM_congr hrest fun i _ y hy=>each (len+i) y hy
    rw[if_neg (by simpa using hb)]
    -- no room at all
    have:cap-len=0:=by
     rcases Nat.eq_zero_or_pos (cap-len)with h0|h0
     ·exact h0
     exfalso
     obtain⟨_,r2⟩:=mapM_some hrest
     obtain⟨y,hy,_⟩:=r2 0 0 (List.getElem?_range (by omega))
     obtain⟨csi,h1,_⟩:=Option.bind_eq_some_iff.1 hy
     obtain⟨arr,e',fz,hh,_⟩:=cells_spec h1 hz
     have hbk:(a.add ((len+0)*P.cellsOf e)).block=a.block:=by unfold Addr.add;split<;>rfl
     rw[hbk]at hh
     exact hb (Array.getElem?_eq_some_iff.1 hh).1
    rw[this]at hrest
    simpa using hrest
   cases h
  ·rename_i fs hu
   simp only[Bool.and_eq_true,List.all_eq_true]at hp
   simp only[DataW.trod,hu]at h ⊢
   split at h
   ·rename_i hl
    rw[if_pos hl]
    obtain⟨xs,hm,h⟩:=Option.map_eq_some_iff.1 h
    exact Option.map_eq_some_iff.2 ⟨xs,mapM_congr hm fun f hf y hy=>retrod hk n _ fuel _ y (hp.2 f hf) hy,h⟩
   cases h
  ·rename_i m e hu
   simp only[Bool.and_eq_true]at hp
   simp only[DataW.trod,hu]at h ⊢
   split at h
   ·rename_i hl
    rw[if_pos hl]
    obtain⟨xs,hm,h⟩:=Option.map_eq_some_iff.1 h
    exact Option.map_eq_some_iff.2 ⟨xs,mapM_congr hm fun i _ y hy=>retrod hk n _ fuel _ y hp.2 hy,h⟩
   cases h
  cases hp
theorem retrodAll(hk:Kept W W')(n:Nat):∀(ts:List TypeId) (vs:List Value) (ds:List (DataW H)) (ps:List MemPlace),(ts.all fun t=>plainT P n t)=true→DataW.TrodAll enc P W 0 (fun _=>true) held ts vs ds ps →
  DataW.TrodAll enc P W' 0 (fun b=>decide (b<W.heap.size)) held ts vs ds ps
 | [],[],[],ps,_,h=>h
 |t::ts,v::vs,d::ds,ps,hp,⟨p,q,⟨fuel,h1⟩,h2,h3⟩=>by
  simp only[List.all_cons,Bool.and_eq_true]at hp
  exact⟨p,q,⟨fuel,retrod hk n t fuel _ _ hp.1 h1⟩,retrodAll hk n ts vs ds q hp.2 h2,h3⟩
 | [],_::_,_,ps,_,h=>h.elim
 | [],[],_::_,ps,_,h=>h.elim
 |_::_,[],_,ps,_,h=>h.elim
 |_::_,_::_,[],ps,_,h=>h.elim
def RepAll(P:Program)(n:Nat)(S:St):List TypeId→List Value→Prop
 | [],[]=>True
 |t::ts,v::vs=>Rep P n t S (cellsL v)∧RepAll P n S ts vs
 |_,_=>False
theorem RepAll.keep{S T:St}(h:Keep S T){n:Nat}:∀{ts:List TypeId} {vs:List Value},RepAll P n S ts vs→RepAll P n T ts vs
 | [],[],_=>trivial
 |_::_,_::_,⟨a,b⟩=>⟨Rep.keep h n _ _ a,RepAll.keep h b⟩
 | [],_::_,h=>h.elim
 |_::_,[],h=>h.elim
end
end Go.Cm

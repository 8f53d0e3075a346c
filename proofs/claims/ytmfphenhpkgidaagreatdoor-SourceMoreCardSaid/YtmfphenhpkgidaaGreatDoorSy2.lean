/-
  The evaluator of the model, and that it is sound: part 6.
-/
import Derived.KernelRfl
import Derived.Test.YtmfphenhpkgidaaGreatDoorSy1
namespace Go.Cm
open Go
variable{P:Program}{K:BX}
section
variable{n:Nat}{ro:Option Nat}{L:Env}{S:St}{ds:List Deferred}{Q:eQ}{c:Code}
end
section
variable{n:Nat}{ro:Option Nat}{L:Env}{S S0:St}{Q:CV}{ops:List Oper}{i d:Nat}{o:Oper}{Ts:List St}{l:List (Nat×AF)}
end
end Go.Cm
namespace Go.Cm
open Go
variable{P:Program}{K:BX}{n i j q d:Nat}{ops:List Oper}{pl:List (Oper×Nat)}{AJ:List Nat}{E:List DE}{L:Env}{S S0:St}{Ts:List St}{Q:CV}{l:List (Nat×AF)}{gs:List Gr}{o:Oper}
noncomputable def cb(F:Func):Code:=F.body.getD .skip
theorem ce{f:FuncId}{F:Func}{args:List Value}{Q:Value→St→Prop}(n:Nat)(hf:P.funcs[f]?=some F)(h:BE S [S] S []→XE P K n none (cb F) (U1 0 args) S (M9 P F.results.toList Q))(hb:F.body=some (cb F):=by exact rfl)(hk:K.call f args S=none:=by exact rfl)
  (hd:K.defers f=false:=by exact rfl)(Ch:(F.name== "runtime.NumGoroutine")=false:=by kernel_rfl)(hn:El F.ntmps args.length=n:=by exact rfl)(Wh:Nat.ble n 256=true:=by exact rfl):CC P K f args S Q :=
 Ce hf hb hk hd Ch hn Wh (h (BE.start S))
theorem aL(hl:AE S0 Ts S l gs){e:TypeId}(z:List Value)(h:∀B S',AE S0 Ts S' ((B,.cells z e false true [])::l) gs→RE P K n ops (i+1) ((d,ptrTo B 0)::L) S' Q)(ho:nth ops i=some o:=by exact rfl)(AV:o.op= .alloc e:=by exact rfl)(hw:Be ops L o=some true:=by exact rfl)
  (hd:o.dst=some d:=by exact rfl)(hn:Nat.blt d n=true:=by exact rfl)(hz:zeroOf P e=some z:=by kernel_rfl):RE P K n ops i L S Q:=AJr hl ho AV hw hd hn hz h
theorem bL(hl:AE S0 Ts S l gs){e:TypeId}{x:Operand}{v:Value}(h:∀B S',AE S0 Ts S' ((B,.cells (BG v) e false true [])::l) gs→RE P K n ops (i+1) ((d,ptrTo B 0)::L) S' Q)(ho:nth ops i=some o:=by exact rfl)(AV:o.op= .box e x:=by exact rfl)(hw:Be ops L o=some true:=by exact rfl)
  (hd:o.dst=some d:=by exact rfl)(hn:Nat.blt d n=true:=by exact rfl)(hx:A7 L x=some v:=by exact rfl):RE P K n ops i L S Q:=AJt hl ho AV hw hd hn hx h
theorem sL(hl:AE S0 Ts S l gs)(k:Nat){t:TypeId}{x y:Operand}{v:Value}{b off:Nat}{c:List Value}(c':List Value){e:TypeId}(h:∀S',AE S0 Ts S' (Js k (.cells c' e false true []) l) gs→RE P K n ops (i+1) L S' Q)(hk:nth l k=some (b,.cells c e false true []):=by exact rfl)
  (ho:nth ops i=some o:=by exact rfl)(AV:o.op= .store t x y:=by exact rfl)(hw:Be ops L o=some true:=by exact rfl)(hd:o.dst=none:=by exact rfl)(hx:A7 L x=some (ptrTo b off):=by exact rfl)(hy:A7 L y=some v:=by exact rfl)
  (hz:Kc P t v=true:=by kernel_rfl)(hs:Bq off (BG v) c=some c':=by exact rfl):RE P K n ops i L S Q:=CN hl k hk ho AV hw hd hx hy hz hs h
theorem dL(hl:AE S0 Ts S l gs){t elem:TypeId}{len:Nat}{ps:Array (Nat×Operand)}{us:List (Nat×Value)}(c:List Value)(hu:P.underlying t=some (.slice elem))
  (h:∀B S',DW S' B elem c→AE S0 Ts S' l gs→RE P K n ops (i+1) ((d,.slice (some ⟨B,0,none⟩) len len)::L) S' Q)(ho:nth ops i=some o:=by exact rfl)(AV:o.op= .buildSlice t len ps:=by exact rfl)(hw:Be ops L o=some true:=by exact rfl)
  (hd:o.dst=some d:=by exact rfl)(hn:Nat.blt d n=true:=by exact rfl)(hx:J9 L ps.toList=some us:=by exact rfl)(hc:NP P elem len us=some c:=by kernel_rfl):RE P K n ops i L S Q:=Ry hl ho AV hw hd hn hu hx hc h
theorem pL(hl:AE S0 Ts S l gs)(k:Nat){t:TypeId}{x y:Operand}{v:Value}{b off:Nat}{c:List Value}(c':List Value){e:TypeId}
  (hk:nth l k=some (b,.cells c e false true []):=by exact rfl)(ho:nth pl q=some (o,j):=by exact rfl)(AV:o.op= .store t x y:=by exact rfl)(hw:Be ops L o=some true:=by exact rfl)(hd:o.dst=none:=by exact rfl)(hx:A7 L x=some (ptrTo b off):=by exact rfl)
  (hy:A7 L y=some v:=by exact rfl)(hz:Kc P t v=true:=by kernel_rfl)(hs:Bq off (BG v) c=some c':=by exact rfl)(h:∀S',AE S0 Ts S' (Js k (.cells c' e false true []) l) gs→FP P n S' ((nth AJ j).getD 0) E∧RP P K n ops AJ pl (q+1) (left ((nth AJ j).getD 0) E) L S' Q):RP P K n ops AJ pl q E L S Q:=Hs hl k hk ho AV hw hd hx hy hz hs h
theorem AB{G:Prop}(h:G:=by kernel_rfl):G:=h
theorem AA{G:Prop}(h:G:=by omega):G:=h
theorem Al{α:Type}{a:α}{l:List α}:a∈a::l:=List.mem_cons_self ..
theorem BQ{α:Type}{a b:α}{l:List α}(h:a∈l):a∈b::l:=List.mem_cons_of_mem _ h
theorem DS{α:Type}{l r:List α}:(l++r).length=l.length+r.length:=List.length_append
theorem D1{α β:Type}{f:α→β}{l:List α}:(l.map f).length=l.length:=List.length_map ..
theorem Hm{α β:Type}{f:α→β}{l r:List α}:(l++r).map f=l.map f++r.map f:=List.map_append
theorem I6{p:Prop}[Decidable p](h:decide p=true):p:=of_decide_eq_true h
theorem Jk{p:Prop}[Decidable p](h:decide p=false):¬p:=of_decide_eq_false h
theorem sE{G:Prop}(h:G:=by repeat (first|exact trivial|refine⟨rfl,?_⟩)):G:=h
theorem dT{p g:Prop}[Decidable p](h:decide p=true)(k:p→g:=by intro k;omega):g:=k (of_decide_eq_true h)
theorem dF{p g:Prop}[Decidable p](h:decide p=false)(k:¬p→g:=by intro k;omega):g:=k (of_decide_eq_false h)
end Go.Cm
namespace Go.Cm
open Go
variable{P:Program}{w0:Bi}
theorem mapM_some{α β:Type}{f:α→Option β}:∀{l:List α} {r:List β},l.mapM f=some r→r.length=l.length∧∀(i:Nat) (x:α),l[i]?=some x→∃y,f x=some y∧r[i]?=some y
 | [],r,h=>by
  simp only[List.mapM_nil,Option.pure_def,Option.some.injEq]at h
  subst h
  exact⟨rfl,fun i x hx=>by simp at hx⟩
 |a::l,r,h=>by
  rw[List.mapM_cons]at h
  obtain⟨y,hy,h⟩:=Option.mem_bind_iff.1 h
  obtain⟨ys,Nr,h⟩:=Option.mem_bind_iff.1 h
  cases h
  obtain⟨h1,h2⟩:=mapM_some Nr
  refine⟨by simp[h1],fun i x hx=>?_⟩
  cases i with
  |zero=>simp at hx;subst hx;exact⟨y,hy,rfl⟩
  |succ i=>simpa using h2 i x (by simpa using hx)
theorem Za{w:World}{base:Nat}{a:Addr}{n:Nat}{cs:List Value}(h:w.cells? base a n=some cs)(hn:0<n) :
  ∃(arr:Array Value) (e:TypeId) (fz:Nat×Nat),w.heap[a.block]?=some (.cells arr e fz)∧a.spot=none∧a.off+n≤arr.size∧cs=(arr.toList.drop a.off).take n:=by
 unfold World.cells? at h
 split at h
 ·obtain⟨h1,h2⟩:=mapM_some h
  have hl:cs.length=n:=by simpa using h1
  have each:∀i,i<n→∃(arr:Array Value) (e:TypeId) (fz:Nat×Nat),w.heap[a.block]?=some (.cells arr e fz)∧(a.add i).spot=none∧∃v,arr[a.off+i]?=some v∧cs[i]?=some v:=by
   intro i hi
   obtain⟨y,hy,hc⟩:=h2 i i (by simp[hi])
   unfold World.cell? at hy
   have hb:(a.add i).block=a.block:=by unfold Addr.add;split<;>rfl
   have ho:(a.add i).off=a.off+i:=by
    unfold Addr.add
    split
    ·rename_i e;subst e;rfl
    rfl
   rw[hb,ho]at hy
   split at hy
   ·rename_i arr e fz hh
    split at hy
    ·cases hy
    rename_i hs
    exact⟨arr,e,fz,hh,by simpa using hs,y,hy,hc⟩
   cases hy
  obtain⟨arr,e,fz,hh,hs,_⟩:=each 0 hn
  have PA:a.spot=none:=hs
  refine⟨arr,e,fz,hh,PA,?_,?_⟩
  ·obtain⟨ee,e2,gY,K9,_,v,hv,_⟩:=each (n-1) (by omega)
   rw[hh]at K9
   cases K9
   have:=(Array.getElem?_eq_some_iff.1 hv).1
   omega
  apply List.ext_getElem?
  intro i
  rw[List.getElem?_take]
  by_cases hi:i<n
  ·obtain⟨ee,e2,gY,K9,_,v,hv,hc⟩:=each i hi
   rw[hh]at K9
   cases K9
   rw[if_pos hi,hc,List.getElem?_drop,Array.getElem?_toList,hv]
  rw[if_neg hi,List.getElem?_eq_none (by omega)]
 cases h
def PZ(P:Program):Nat→TypeId→Bool
 |0,_=>false
 |n+1,t=>match P.underlying t with
  |some .bool=>true
  |some (.int _)=>true
  |some .string=>true
  |some (.slice e)=>PZ P n e&&(Nat.blt 0 (P.cellsOf e)&&(match A5 P e with|some z=>Nat.beq z (P.cellsOf e)|none=>false))
  |some (.struct fs)=>L3 P (P.cellsOf t) fs.toList 0&&fs.toList.all fun f=>PZ P n f.type
  |some (.array m e)=>Nat.beq (P.cellsOf t) (m*P.cellsOf e)&&PZ P n e
  |_=>false
def DV(P:Program):Nat→TypeId→St→List Value→Prop
 |0,_,_,_=>False
 |n+1,t,S,c=>match P.underlying t with
  |some .bool=>∃b,c= [.bool b]
  |some (.int k)=>∃m,c= [.int k m]∧(Lit.int k m).wf=true
  |some .string=>∃s:ByteArray,c= [.string s]∧s.size≤maxLen
  |some (.slice e)=>c= [.slice none 0 0]∨(∃b o k,c= [.slice (some ⟨b,o,some k⟩) 0 0]) ∨
   ∃b len cs,c= [.slice (some ⟨b,0,none⟩) len len]∧b<S.size∧S.get b=some (.cells cs e true false [])∧cs.length=len*P.cellsOf e∧len≤maxLen∧∀i,i<len→DV P n e S ((cs.drop (i*P.cellsOf e)).take (P.cellsOf e))
  |some (.struct fs)=>c.length=P.cellsOf t∧∀f,f∈fs.toList→DV P n f.type S ((c.drop f.offset).take (P.cellsOf f.type))
  |some (.array m e)=>c.length=P.cellsOf t∧∀i,i<m→DV P n e S ((c.drop (i*P.cellsOf e)).take (P.cellsOf e))
  |_=>False
theorem DV.AD{S T:St}(h:AL S T):∀(n:Nat) (t:TypeId) (c:List Value),DV P n t S c→DV P n t T c
 |0,_,_,h=>h
 |n+1,t,c,hr=>by
  unfold DV at hr ⊢
  split
  ·rename_i hu;rw[hu]at hr;exact hr
  ·rename_i hu;rw[hu]at hr;exact hr
  ·rename_i hu;rw[hu]at hr;exact hr
  ·rename_i e hu
   rw[hu]at hr
   rcases hr with hr|hr|⟨b,len,cs,h1,h2,h3,h4,h5,h6⟩
   ·exact .inl hr
   ·exact .inr (.inl hr)
   exact .inr (.inr ⟨b,len,cs,h1,Nat.lt_of_lt_of_le h2 h.1,by rw[h.2 b h2];exact h3,h4,h5,fun i hi=>DV.AD h n e _ (h6 i hi)⟩)
  ·rename_i fs hu
   rw[hu]at hr
   exact⟨hr.1,fun f hf=>DV.AD h n _ _ (hr.2 f hf)⟩
  ·rename_i m e hu
   rw[hu]at hr
   exact⟨hr.1,fun i hi=>DV.AD h n _ _ (hr.2 i hi)⟩
  rename_i h1 h2 h3 h4 h5 h6
  cases hu:P.underlying t with
  |none=>rw[hu]at hr;exact hr
  |some d =>
   rw[hu]at hr
   cases d<;>first
    |exact hr
    |exact absurd hu h1
    |exact absurd hu (h2 _)
    |exact absurd hu h3
    |exact absurd hu (h4 _)
    |exact absurd hu (h5 _)
    |exact absurd hu (h6 _ _)
theorem AS.length{ρ:AI}{a b:List Value}(h:AS ρ a b):a.length=b.length:=h.1
theorem AAw{α:Type}(l:List α)(k z:Nat):l.take ((k+1)*z)=l.take (k*z)++(l.drop (k*z)).take z:=by
 rw[Nat.succ_mul,List.take_add]
section
variable{H:Type}{enc:TypeId×Value→H}{sp:Nat→Bool}{held:Bool}
theorem lay:∀(n:Nat) (t:TypeId) (fuel:Nat) (cs:List Value) (d:DataW H) (p:List MemPlace),PZ P n t=true→(∀b,sp b=true)→DataW.trod enc P w0.toWorld 0 sp held fuel t cs=some (d,p) →
  ∀(ρ:AI) (S:St),AW P w0 ρ S w0.toWorld→∃ρ' S' c,Ext ρ ρ'∧AW P w0 ρ' S' w0.toWorld∧AL S S'∧AS ρ' c cs∧DV P n t S' c
 |0,t,fuel,cs,d,p,hp,_,h,ρ,S,hs=>by cases hp
 |n+1,t,0,cs,d,p,hp,_,h,ρ,S,hs=>by simp[DataW.trod]at h
 |n+1,t,fuel+1,cs,d,p,hp,LG,h,ρ,S,hs=>by
  unfold PZ at hp
  split at hp
  ·rename_i hu
   simp only[DataW.trod,hu]at h
   split at h
   all_goals first|(simp_all;done)|skip
   refine⟨ρ,S,[.bool _],Ext.refl _,hs,AL.refl _,AS.cons (.bool _) .nil,?_⟩
   unfold DV
   rw[hu]
   exact⟨_,rfl⟩
  ·rename_i k hu
   simp only[DataW.trod,hu]at h
   split at h
   all_goals first|(simp_all;done)|skip
   rename_i k' m
   split at h
   ·rename_i hk
    obtain⟨rfl,hwf⟩:=hk
    refine⟨ρ,S,[.int _ _],Ext.refl _,hs,AL.refl _,AS.cons (.int _ _) .nil,?_⟩
    unfold DV
    simp_all
   cases h
  ·rename_i hu
   simp only[DataW.trod,hu]at h
   split at h
   all_goals first|(simp_all;done)|skip
   rename_i s
   split at h
   ·rename_i hle
    refine⟨ρ,S,[.string _],Ext.refl _,hs,AL.refl _,AS.cons (.string _) .nil,?_⟩
    unfold DV
    simp_all
   cases h
  ·rename_i e hu
   simp only[Bool.and_eq_true]at hp
   obtain⟨jD,O9,jE⟩:=hp
   have hz:=Gk O9
   have A4:A5 P e=some (P.cellsOf e):=by
    split at jE
    ·rename_i z RT;rw[RT,Bc jE]
    cases jE
   generalize LJ:P.cellsOf e=z at *
   simp only[DataW.trod,hu]at h
   split at h
   all_goals first|(simp_all;done)|skip
   ·-- nil
    refine⟨ρ,S,[.slice none 0 0],Ext.refl _,hs,AL.refl _,AS.cons .JA .nil,?_⟩
    unfold DV
    simp_all
   rename_i a len cap he
   cases he
   simp only[LJ]at h
   split at h
   ·rename_i hle
    obtain⟨sd,iZ,h⟩:=Option.mem_bind_iff.1 h
    obtain⟨rest,Hl,h⟩:=Option.map_eq_some_iff.1 h
    rw[if_pos (LG _)]at Hl
    obtain⟨e1,e2⟩:=mapM_some iZ
    obtain⟨r1,r2⟩:=mapM_some Hl
    by_cases JY:cap=0
    ·obtain rfl:len=0:=by omega
     subst JY
     refine⟨ρ,S,[.slice (some ⟨0,0,some 0⟩) 0 0],Ext.refl _,hs,AL.refl _,AS.cons (.Lg _ _ _ _) .nil,?_⟩
     unfold DV
     rw[hu]
     exact .inr (.inl ⟨0,0,0,rfl⟩)
    -- the row lies in memory
    have iY:∀i,i<cap→∃J6,w0.toWorld.cells? 0 (a.add (i*z)) z=some J6∧∃d' p',DataW.trod enc P w0.toWorld 0 sp held fuel e J6=some (d',p'):=by
     intro i hi
     by_cases Hh:i<len
     ·obtain⟨y,hy,_⟩:=e2 i i (by simp[Hh])
      obtain⟨J6,h1,h2⟩:=Option.bind_eq_some_iff.1 hy
      exact⟨J6,h1,y.1,y.2,h2⟩
     obtain⟨y,hy,_⟩:=r2 (i-len) (i-len) (List.getElem?_range (by omega))
     obtain⟨J6,h1,h2⟩:=Option.bind_eq_some_iff.1 hy
     rw[show len+(i-len)=i by omega]at h1
     exact⟨J6,h1,y.1,y.2,h2⟩
    obtain⟨cs0,q0,_⟩:=iY 0 (by omega)
    obtain⟨arr,e',fz,hh,jQ,_,_⟩:=Za q0 hz
    have AGH:(a.add (0*z))=a:=by simp[Addr.add]
    rw[AGH]at hh jQ
    have Wp:∀i,(a.add (i*z)).block=a.block∧(a.add (i*z)).off=a.off+i*z:=by
     intro i
     unfold Addr.add
     split
     ·rename_i e0;rw[e0];exact⟨rfl,rfl⟩
     exact⟨rfl,rfl⟩
    have aU:a.off+cap*z≤arr.size:=by
     obtain⟨J6,h1,_⟩:=iY (cap-1) (by omega)
     obtain⟨ee,e2',gY,K9,_,iu,_⟩:=Za h1 hz
     rw[(Wp _).1,hh]at K9
     cases K9
     rw[(Wp _).2]at iu
     have:(cap-1)*z+z=cap*z:=by rw[←Nat.succ_mul];congr 1;omega
     omega
    have rows:∀k,k≤len→∃ρ' S' c,Ext ρ ρ'∧AW P w0 ρ' S' w0.toWorld∧AL S S'∧AS ρ' c ((arr.toList.drop a.off).take (k*z))∧c.length=k*z∧∀i,i<k→DV P n e S' ((c.drop (i*z)).take z):=by
     intro k
     induction k with
     |zero=>intro _;exact⟨ρ,S,[],Ext.refl _,hs,AL.refl _,by simpa using AS.nil,by simp,fun i hi=>by omega⟩
     |succ k ih =>
      intro hk
      obtain⟨ρ1,S1,c1,x1,x2,x3,x4,x5,x6⟩:=ih (by omega)
      obtain⟨J6,h1,d',p',h2⟩:=iY k (by omega)
      obtain⟨ee,e2',gY,K9,_,iu,Hf⟩:=Za h1 hz
      rw[(Wp _).1,hh]at K9
      cases K9
      rw[(Wp _).2]at Hf
      obtain⟨ρ2,S2,c2,y1,y2,y3,y4,y5⟩:=lay n e fuel J6 d' p' jD LG h2 ρ1 S1 x2
      have CY:c2.length=z:=by
       rw[y4.length,Hf,List.length_take,List.length_drop,Array.length_toList]
       rw[(Wp _).2]at iu
       omega
      refine⟨ρ2,S2,c1++c2,x1.trans y1,y2,x3.trans y3,?_,by rw[List.length_append,x5,CY,Nat.succ_mul],fun i hi=>?_⟩
      ·rw[AAw]
       refine AS.append (x4.mono y1) ?_
       rw[List.drop_drop,←Hf]
       exact y4
      by_cases Wy:i<k
      ·have um:i*z+z≤k*z:=by rw[←Nat.succ_mul];exact Nat.mul_le_mul_right _ Wy
       rw[List.drop_append_of_le_length (by omega),List.take_append_of_le_length (by rw[List.length_drop];omega)]
       exact DV.AD y3 n e _ (x6 i Wy)
      obtain rfl:i=k:=by omega
      rw[←x5,List.drop_left,←CY,List.take_length]
      exact y5
    obtain⟨ρ1,S1,c1,x1,x2,x3,x4,x5,x6⟩:=rows len (Nat.le_refl _)
    have AN:a.block<w0.heap.size:=(Array.getElem?_eq_some_iff.1 hh).1
    have Jb:ρ1 S1.size=none:=by
     cases hx:ρ1 S1.size with
     |none=>rfl
     |some M=>exact absurd (x2.Dj _ _ hx).1 (Nat.lt_irrefl _)
    have hv:=x2.view (c:=c1) (e:=e) (L:=⟨a.block,a.off,arr.size,z⟩) AN ⟨arr,e',fz,hh,rfl,fun i v KJ=>?_,(fun h=>nomatch h),fun _=>A4,(fun h=>nomatch h),fun h=>h.elim (fun h=>nomatch h) (fun h=>nomatch h)⟩
    ·refine⟨_,_,[.slice (some ⟨S1.size,0,none⟩) len len],x1.trans hv.1,hv.2,x3.trans (AL.new _ _),AS.cons ?_ .nil,?_⟩
     ·obtain⟨bb,oo,ss⟩:=a
      simp only at jQ
      subst jQ
      exact VR.slice (L:=⟨bb,oo,arr.size,z⟩) (Ju _ _ _) (Nat.le_refl _) hle.2.1 (fun _=>aU) (.inl (by simp))
     unfold DV
     rw[hu]
     refine .inr (.inr ⟨S1.size,len,c1,rfl,Nat.lt_succ_self _,MA _ _,by rw[LJ];exact x5,by have:=hle.2;omega,fun i hi=>?_⟩)
     rw[LJ]
     exact DV.AD (AL.new _ _) n e _ (x6 i hi)
    obtain⟨v',q1,q2⟩:=x4.get KJ
    rw[List.getElem?_take]at q1
    split at q1
    ·rw[List.getElem?_drop,Array.getElem?_toList]at q1
     exact⟨v',q1,q2.mono (Ot _ Jb)⟩
    cases q1
   cases h
  ·rename_i fs hu
   simp only[Bool.and_eq_true,List.all_eq_true]at hp
   obtain⟨jD,O9⟩:=hp
   simp only[DataW.trod,hu]at h
   split at h
   ·rename_i hlen
    obtain⟨xs,hm,_⟩:=Option.map_eq_some_iff.1 h
    obtain⟨m1,m2⟩:=mapM_some hm
    -- field by field
    have fields:∀(gs:List Field) (o:Nat),L3 P (P.cellsOf t) gs o=true→(∀f,f∈gs→f∈fs.toList)→∀(ρ1:AI) (S1:St),AW P w0 ρ1 S1 w0.toWorld →
      ∃ρ' S' c,Ext ρ1 ρ'∧AW P w0 ρ' S' w0.toWorld∧AL S1 S'∧AS ρ' c (cs.drop o)∧∀f,f∈gs→o≤f.offset∧DV P n f.type S' ((c.drop (f.offset-o)).take (P.cellsOf f.type)):=by
     intro gs
     induction gs with
     |nil =>
      intro o hc _ ρ1 S1 Cc
      refine⟨ρ1,S1,[],Ext.refl _,Cc,AL.refl _,?_,fun f hf=>by simp at hf⟩
      rw[Bc hc,←hlen,List.drop_length]
      exact AS.nil
     |cons g gs ih =>
      intro o hc BH ρ1 S1 Cc
      simp only[L3,Bool.and_eq_true]at hc
      have ho:=Bc hc.1
      obtain⟨i,hi⟩:=List.getElem?_of_mem (BH g (by simp))
      obtain⟨y,hy,_⟩:=m2 i g hi
      obtain⟨ρ2,S2,c2,y1,y2,y3,y4,y5⟩:=lay n g.type fuel _ y.1 y.2 (O9 g (BH g (by simp))) LG hy ρ1 S1 Cc
      obtain⟨ρ3,S3,c3,z1,z2,z3,z4,z5⟩:=ih (o+P.cellsOf g.type) hc.2 (fun f hf=>BH f (by simp[hf])) ρ2 S2 y2
      have G1:c2.length=min (P.cellsOf g.type) (cs.length-o):=by rw[y4.length,List.length_take,List.length_drop,ho]
      refine⟨ρ3,S3,c2++c3,y1.trans z1,z2,y3.trans z3,?_,fun f hf=>?_⟩
      ·have e1:cs.drop o=(cs.drop o).take (P.cellsOf g.type)++cs.drop (o+P.cellsOf g.type):=by
        rw[←List.drop_drop,List.take_append_drop]
       rw[e1]
       rw[ho]at y4
       exact AS.append (y4.mono z1) z4
      rcases List.mem_cons.1 hf with rfl|hf
      ·refine⟨Nat.le_of_eq ho.symm,?_⟩
       rw[ho,Nat.sub_self,List.drop_zero]
       have Dc:c2.length=P.cellsOf f.type:=by
        have hle:o+P.cellsOf f.type≤P.cellsOf t:=by
         clear ih BH z5
         have:∀(gs:List Field) (o:Nat),L3 P (P.cellsOf t) gs o=true→o≤P.cellsOf t:=by
          intro gs
          induction gs with
          |nil=>intro o h;exact Nat.le_of_eq (Bc h)
          |cons g gs ih =>
           intro o h
           simp only[L3,Bool.and_eq_true]at h
           have:=ih _ h.2
           omega
         exact this gs _ hc.2
        rw[G1,hlen]
        omega
       rw[←Dc,List.take_left]
       exact DV.AD z3 n _ _ (by
        have:=y5
        rwa []at this)
      obtain⟨q1,q2⟩:=z5 f hf
      refine⟨by omega,?_⟩
      have Dc:c2.length≤f.offset-o:=by rw[G1];omega
      have AGT:c2.length=P.cellsOf g.type∨c3= []:=by
       by_cases hle:P.cellsOf g.type≤cs.length-o
       ·left;rw[G1];omega
       right
       have:=z4.length
       rw[List.length_drop]at this
       exact List.eq_nil_of_length_eq_zero (by omega)
      rcases AGT with e3|e3
      ·rw[List.drop_append,List.drop_eq_nil_of_le Dc,List.nil_append,e3]
       rw[show f.offset-o-P.cellsOf g.type=f.offset-(o+P.cellsOf g.type) by omega]
       exact q2
      subst e3
      rw[List.append_nil,List.drop_eq_nil_of_le Dc]
      rw[List.drop_nil]at q2
      exact q2
    obtain⟨ρ',S',c,x1,x2,x3,x4,x5⟩:=fields fs.toList 0 jD (fun f hf=>hf) ρ S hs
    rw[List.drop_zero]at x4
    refine⟨ρ',S',c,x1,x2,x3,x4,?_⟩
    unfold DV
    rw[hu]
    refine⟨by rw[x4.length,hlen],fun f hf=>?_⟩
    have:=(x5 f hf).2
    rwa [Nat.sub_zero]at this
   cases h
  ·rename_i m e hu
   simp only[Bool.and_eq_true]at hp
   have A4:=Bc hp.1
   simp only[DataW.trod,hu]at h
   split at h
   ·rename_i hlen
    obtain⟨xs,hm,_⟩:=Option.map_eq_some_iff.1 h
    obtain⟨m1,m2⟩:=mapM_some hm
    generalize LJ:P.cellsOf e=z at *
    have rows:∀k,k≤m→∃ρ' S' c,Ext ρ ρ'∧AW P w0 ρ' S' w0.toWorld∧AL S S'∧AS ρ' c (cs.take (k*z))∧c.length=k*z∧∀i,i<k→DV P n e S' ((c.drop (i*z)).take z):=by
     intro k
     induction k with
     |zero=>intro _;exact⟨ρ,S,[],Ext.refl _,hs,AL.refl _,by simpa using AS.nil,by simp,fun i hi=>by omega⟩
     |succ k ih =>
      intro hk
      obtain⟨ρ1,S1,c1,x1,x2,x3,x4,x5,x6⟩:=ih (by omega)
      obtain⟨y,hy,_⟩:=m2 k k (List.getElem?_range (by omega))
      obtain⟨ρ2,S2,c2,y1,y2,y3,y4,y5⟩:=lay n e fuel _ y.1 y.2 hp.2 LG hy ρ1 S1 x2
      have um:k*z+z≤m*z:=by rw[←Nat.succ_mul];exact Nat.mul_le_mul_right _ hk
      have CY:c2.length=z:=by
       rw[y4.length,List.length_take,List.length_drop]
       omega
      refine⟨ρ2,S2,c1++c2,x1.trans y1,y2,x3.trans y3,?_,by rw[List.length_append,x5,CY,Nat.succ_mul],fun i hi=>?_⟩
      ·rw[AAw]
       exact AS.append (x4.mono y1) y4
      by_cases Wy:i<k
      ·have um:i*z+z≤k*z:=by rw[←Nat.succ_mul];exact Nat.mul_le_mul_right _ Wy
       rw[List.drop_append_of_le_length (by omega),List.take_append_of_le_length (by rw[List.length_drop];omega)]
       exact DV.AD y3 n e _ (x6 i Wy)
      obtain rfl:i=k:=by omega
      rw[←x5,List.drop_left,←CY,List.take_length]
      exact y5
    obtain⟨ρ',S',c,x1,x2,x3,x4,x5,x6⟩:=rows m (Nat.le_refl _)
    rw[List.take_of_length_le (by omega)]at x4
    refine⟨ρ',S',c,x1,x2,x3,x4,?_⟩
    unfold DV
    rw[hu]
    refine⟨by rw[x5,A4],fun i hi=>?_⟩
    rw[LJ]
    exact x6 i hi
   cases h
  cases hp
end
end Go.Cm
namespace Go.Cm
open Go
variable{P:Program}{K:BX}
theorem AEb(hm:P.follows .mixedOrders=true){W:World}(hK:Jz P K W){f:FuncId}{fn:Func}{c:Code}(hf:P.funcs[f]?=some fn)(hb:fn.body=some c)(Ch:(fn.name== "runtime.NumGoroutine")=false)
  {args:List Value}{args':Array Value}{ρ:AI}{S:St}(hs:AW P ⟨W,fun _=>false⟩ ρ S W)(hv:AS ρ args args'.toList){Q:Value→Prop}(h:CC P K f args S fun v _=>Q v) :
  Calls P f args' W fun e w=>∃v ρ' v',Q v∧VR ρ' v v'∧e= .returned v'∧Kept W w:=by
 obtain⟨m,v,S',h1,h2⟩:=h
 have AGK:(fns P K (m+1)).call (.fn (.func f) #[]) args S=some (.returned v,S'):=by
  show Hb P K (fns P K m) f (args++(#[]:Array Value).toList) S=_
  simpa using h1
 have:=(gM hm hK (m+1) (m+1) (Nat.le_refl _) (fun _=>false)).call _ _ _ _ _ AGK ρ W (.fn (.func f) #[]) args' hs ⟨.func f,.func f, #[], #[],rfl,rfl,.func f rfl N9 rfl N9⟩ hv
 have JZ:(invoke (.fn (.func f) #[]) args').run P W= .ok (.enter f args') W:=by
  have:=Ph hf hb Ch args' W
  simpa [invoke]using this
 rw[JZ]at this
 refine(callsIn_wide.1 this).mono ?_
 rintro e' w ⟨ρ',_,q2,q3⟩
 cases q2 with
 |ret PF=>exact⟨v,ρ',_,h2,PF,rfl,q3.kept⟩
theorem mapM_congr{α β:Type}{f g:α→Option β}:∀{l:List α} {r:List β},l.mapM f=some r→(∀x,x∈l→∀y,f x=some y→g x=some y)→l.mapM g=some r
 | [],r,h,_=>by simpa using h
 |a::l,r,h,hc=>by
  rw[List.mapM_cons]at h ⊢
  obtain⟨y,hy,h⟩:=Option.mem_bind_iff.1 h
  obtain⟨ys,Nr,h⟩:=Option.mem_bind_iff.1 h
  cases h
  rw[hc a (by simp) y hy,mapM_congr Nr fun x hx=>hc x (by simp[hx])]
  rfl
theorem cell_kept{W W':World}(h:Kept W W'){a:Addr}{v:Value}(hc:W.cell? a=some v):W'.cell? a=some v:=by
 have hb:a.block<W.heap.size:=by
  rcases Nat.lt_or_ge a.block W.heap.size with h1|h1
  ·exact h1
  unfold World.cell? at hc
  simp only[Array.getElem?_eq_none h1]at hc
  cases hc
 unfold World.cell? at hc ⊢
 rw[h.old _ hb]
 exact hc
theorem AEj{W W':World}(h:Kept W W'){base n:Nat}{a:Addr}{cs:List Value}(hc:W.cells? base a n=some cs):W'.cells? base a n=some cs:=by
 unfold World.cells? at hc ⊢
 split at hc
 ·rename_i hb
  rw[if_pos hb]
  exact mapM_congr hc fun x _ y hy=>cell_kept h hy
 cases hc
section
variable{H:Type}{enc:TypeId×Value→H}{held:Bool}{W W':World}
theorem cW(hk:Kept W W'):∀(n:Nat) (t:TypeId) (fuel:Nat) (cs:List Value) (r:DataW H×List MemPlace),PZ P n t=true→DataW.trod enc P W 0 (fun _=>true) held fuel t cs=some r →
  DataW.trod enc P W' 0 (fun b=>decide (b<W.heap.size)) held fuel t cs=some r
 |0,t,fuel,cs,r,hp,h=>by cases hp
 |n+1,t,0,cs,r,hp,h=>by simp[DataW.trod]at h
 |n+1,t,fuel+1,cs,r,hp,h=>by
  unfold PZ at hp
  split at hp
  ·rename_i hu
   simp only[DataW.trod,hu]at h ⊢
   split at h
   all_goals first|(simp_all;done)|skip
  ·rename_i k hu
   simp only[DataW.trod,hu]at h ⊢
   split at h
   all_goals first|(simp_all;done)|skip
  ·rename_i hu
   simp only[DataW.trod,hu]at h ⊢
   split at h
   all_goals first|(simp_all;done)|skip
  ·rename_i e hu
   simp only[Bool.and_eq_true]at hp
   have hz:=Gk hp.2.1
   simp only[DataW.trod,hu]at h ⊢
   split at h
   all_goals first|(simp_all;done)|skip
   rename_i a len cap he
   cases he
   split at h
   ·rename_i hle
    rw[if_pos hle]
    obtain⟨sd,iZ,h⟩:=Option.mem_bind_iff.1 h
    obtain⟨rest,Hl,h⟩:=Option.map_eq_some_iff.1 h
    have each:∀(i:Nat) (y:DataW H×List MemPlace),(W.cells? 0 (a.add (i*P.cellsOf e)) (P.cellsOf e)).bind (DataW.trod enc P W 0 (fun _=>true) held fuel e)=some y →
      (W'.cells? 0 (a.add (i*P.cellsOf e)) (P.cellsOf e)).bind (DataW.trod enc P W' 0 (fun b=>decide (b<W.heap.size)) held fuel e)=some y:=by
     intro i y hy
     obtain⟨J6,h1,h2⟩:=Option.bind_eq_some_iff.1 hy
     rw[AEj hk h1]
     exact cW hk n e fuel J6 y hp.1 h2
    rw[if_pos trivial]at Hl
    refine Option.mem_bind_iff.2 ⟨sd,mapM_congr iZ fun i _ y hy=>each i y hy,?_⟩
    refine Option.map_eq_some_iff.2 ⟨rest,?_,h⟩
    by_cases hb:a.block<W.heap.size
    ·rw[if_pos (by simpa using hb)]
     exact mapM_congr Hl fun i _ y hy=>each (len+i) y hy
    rw[if_neg (by simpa using hb)]
    -- no room at all
    have:cap-len=0:=by
     rcases Nat.eq_zero_or_pos (cap-len)with h0|h0
     ·exact h0
     exfalso
     obtain⟨_,r2⟩:=mapM_some Hl
     obtain⟨y,hy,_⟩:=r2 0 0 (List.getElem?_range (by omega))
     obtain⟨J6,h1,_⟩:=Option.bind_eq_some_iff.1 hy
     obtain⟨arr,e',fz,hh,_⟩:=Za h1 hz
     have hbk:(a.add ((len+0)*P.cellsOf e)).block=a.block:=by unfold Addr.add;split<;>rfl
     rw[hbk]at hh
     exact hb (Array.getElem?_eq_some_iff.1 hh).1
    rw[this]at Hl
    simpa using Hl
   cases h
  ·rename_i fs hu
   simp only[Bool.and_eq_true,List.all_eq_true]at hp
   simp only[DataW.trod,hu]at h ⊢
   split at h
   ·rename_i hl
    rw[if_pos hl]
    obtain⟨xs,hm,h⟩:=Option.map_eq_some_iff.1 h
    exact Option.map_eq_some_iff.2 ⟨xs,mapM_congr hm fun f hf y hy=>cW hk n _ fuel _ y (hp.2 f hf) hy,h⟩
   cases h
  ·rename_i m e hu
   simp only[Bool.and_eq_true]at hp
   simp only[DataW.trod,hu]at h ⊢
   split at h
   ·rename_i hl
    rw[if_pos hl]
    obtain⟨xs,hm,h⟩:=Option.map_eq_some_iff.1 h
    exact Option.map_eq_some_iff.2 ⟨xs,mapM_congr hm fun i _ y hy=>cW hk n _ fuel _ y hp.2 hy,h⟩
   cases h
  cases hp
theorem zP(hk:Kept W W')(n:Nat):∀(ts:List TypeId) (vs:List Value) (ds:List (DataW H)) (ps:List MemPlace),(ts.all fun t=>PZ P n t)=true→DataW.TrodAll enc P W 0 (fun _=>true) held ts vs ds ps →
  DataW.TrodAll enc P W' 0 (fun b=>decide (b<W.heap.size)) held ts vs ds ps
 | [],[],[],ps,_,h=>h
 |t::ts,v::vs,d::ds,ps,hp,⟨p,q,⟨fuel,h1⟩,h2,h3⟩=>by
  simp only[List.all_cons,Bool.and_eq_true]at hp
  exact⟨p,q,⟨fuel,cW hk n t fuel _ _ hp.1 h1⟩,zP hk n ts vs ds q hp.2 h2,h3⟩
 | [],_::_,_,ps,_,h=>h.elim
 | [],[],_::_,ps,_,h=>h.elim
 |_::_,[],_,ps,_,h=>h.elim
 |_::_,_::_,[],ps,_,h=>h.elim
def Vy(P:Program)(n:Nat)(S:St):List TypeId→List Value→Prop
 | [],[]=>True
 |t::ts,v::vs=>DV P n t S (BG v)∧Vy P n S ts vs
 |_,_=>False
theorem Vy.AD{S T:St}(h:AL S T){n:Nat}:∀{ts:List TypeId} {vs:List Value},Vy P n S ts vs→Vy P n T ts vs
 | [],[],_=>trivial
 |_::_,_::_,⟨a,b⟩=>⟨DV.AD h n _ _ a,Vy.AD h b⟩
 | [],_::_,h=>h.elim
 |_::_,[],h=>h.elim
end
end Go.Cm

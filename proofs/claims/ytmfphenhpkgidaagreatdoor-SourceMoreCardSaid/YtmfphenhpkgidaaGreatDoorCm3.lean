/-
  The evaluator of the model, and that it is sound: part 3.
-/
import Derived.RecoverIn
import Derived.Test.YtmfphenhpkgidaaGreatDoorCm2
namespace Go.Cm
open Go
variable{P:Program}{w0:Bi}{K:BX}
theorem oQ{F:Fence}{fn:Func}{tmps:Array Value}{R:Ending→World→Prop}{u:FrameMode}(hu:u≠ .run){ρ:AI}{S2:St}(ig:∀w2,AW P w0 ρ S2 w2→LeavesIn F 0 P fn tmps R [] u w2) :
  ∀(ds:List Deferred) (S:St) (NU:List Deferred) (w:World),GS ds S=some S2→IZ ρ ds NU→AW P w0 ρ S w→LeavesInM F 0 P fn tmps R NU u w:=by
 intro ds
 induction ds with
 |nil =>
  intro S NU w h hd hs
  cases hd
  simp only[GS,Option.some.injEq]at h
  subst h
  exact ig w hs
 |cons d ds ih =>
  intro S NU w h hd hs
  cases hd with
  |cons h1 h2 =>
   rename_i d' l'
   obtain⟨tg,as⟩:=d
   rcases h1 with ⟨r,L,hr,hL,FG⟩|⟨f,cap,BM,hr,_⟩
   case inr =>
    simp only at hr
    subst hr
    simp only[GS]at h
    cases h
   simp only at hr
   subst hr
   simp only[GS]at h
   split at h
   ·rename_i hB
    have hh:w.heap[L.r]?=some (.deferred (some [])):=hs.Bn _ _ _ hL hB
    have hp:=AW.put hs (B':= .defs true) hL hB rfl (pw hh (o':= .deferred none)) rfl
    exact⟨hu,.inl ⟨L.r,_,FG,run_takeDeferred hh,ih _ _ _ h h2 hp⟩⟩
   cases h
theorem AKC{ρ:AI}{S:St}{w:World}(hs:AW P w0 ρ S w){a:Ca}{ar:Act}(ha:Bh ρ a ar):∀(rs:List ResultVar) (vs:List Value),FL P a S rs=some vs →
  ∃C2,(rs.mapM (m:=Sem) fun| .tmp t=>pure (ar.tmps.getD t undef)| .cell x t=>do loadVar t (←asAddr (ar.tmps.getD x undef))).run P w= .ok C2 w∧AS ρ vs C2:=by
 intro rs
 induction rs with
 |nil=>intro vs h;simp only[FL,Option.some.injEq]at h;subst h;exact⟨[],by simp,AS.nil⟩
 |cons r rs ih =>
  intro vs h
  cases r with
  |tmp x =>
   simp only[FL]at h
   split at h
   ·rename_i l hl
    cases h
    obtain⟨C2,p,q⟩:=ih l hl
    exact⟨ar.tmps.getD x undef::C2,by simp only[List.mapM_cons,Sem.run_bind,Sem.run_pure,Result.andThen_ok,p],AS.cons (ha.get x) q⟩
   cases h
  |cell x e =>
   simp only[FL]at h
   split at h
   ·rename_i v l hv hl
    cases h
    obtain⟨C2,p,q⟩:=ih l hl
    obtain⟨v',p1,q1⟩:=lZ hs hv (ha.get x)
    refine⟨v'::C2,?_,AS.cons q1 q⟩
    have hp:∃ad,ar.tmps.getD x undef= .pointer (some ad):=by
     have hx:=ha.get x
     unfold De at hv
     split at hv
     ·rename_i b o hb
      rw[hb]at hx
      generalize ar.tmps.getD x undef=u at hx
      cases hx with
      |ptr _=>exact⟨_,rfl⟩
     cases hv
    obtain⟨ad,hp⟩:=hp
    rw[hp]at p1
    have p2:(loadVar e ad).run P w= .ok v' w:=by simpa [Instr.loadAt,Instr.sureAddr]using p1
    have p3:(asAddr (.pointer (some ad))).run P w= .ok ad w:=by simp[asAddr]
    simp only[List.mapM_cons,Sem.run_bind,Sem.run_pure,hp,p3,p2,Result.andThen_ok,p]
   cases h
end Go.Cm
namespace Go.Cm
open Go
variable{P:Program}{w0:Bi}{K:BX}
def eJ(P:Program)(K:BX):Prop :=
 ∀(w0:Bi) f args v fn S S',K.ext f args S=some (v,S')→P.funcs[f]?=some fn→fn.body=none→∀(ρ:AI) (w:World) (args':Array Value),AW P w0 ρ S w→AS ρ args args'.toList →
  ∃ρ' v' w',(callFunc f args').run P w= .ok (.value v') w'∧Ext ρ ρ'∧VR ρ' v v'∧AW P w0 ρ' S' w'
structure Kept(W w:World):Prop where
 size:W.heap.size≤w.heap.size
 old:∀i,i<W.heap.size→w.heap[i]?=W.heap[i]?
 os:w.os=W.os
 out:w.output=W.output
theorem Kept.refl(W:World):Kept W W:=⟨Nat.le_refl _,fun _ _=>rfl,rfl,rfl⟩
theorem Kept.trans{a b c:World}(h:Kept a b)(k:Kept b c):Kept a c :=
 ⟨Nat.le_trans h.size k.size,fun i hi=>(k.old i (Nat.lt_of_lt_of_le hi h.size)).trans (h.old i hi),k.os.trans h.os,k.out.trans h.out⟩
theorem AW.kept{ρ:AI}{S:St}{w:World}(h:AW P w0 ρ S w):Kept w0.toWorld w:=⟨h.size,h.old,h.os,h.out⟩
theorem AW.later{ρ:AI}{S:St}{w w':World}(h:AW P w0 ρ S w)(k:Kept w w'):AW P w0 ρ S w':=by
 refine⟨Nat.le_trans h.size k.size,fun i hi=>(k.old i (Nat.lt_of_lt_of_le hi h.size)).trans (h.old i hi),k.os.trans h.os,k.out.trans h.out,fun b L hb=>⟨(h.Dj b L hb).1,Nat.lt_of_lt_of_le (h.Dj b L hb).2 k.size⟩,fun b L B hb hB=>?_,h.own,h.KE,h.no⟩
 rw[k.old _ (h.Dj b L hb).2]
 exact h.Bn b L B hb hB
structure Jz(P:Program)(K:BX)(W:World):Prop where
 ext:eJ P K
 call:∀f args S v,K.call f args S=some v→(∀ρ:AI,VR ρ v v)∧∃fn c,P.funcs[f]?=some fn∧fn.body=some c∧(fn.name== "runtime.NumGoroutine")=false ∧
  ∀(w0:Bi) (ρ:AI) (w:World) (args':Array Value),w0.toWorld=W→AW P w0 ρ S w→AS ρ args args'.toList→Calls P f args' w fun e w'=>e= .returned v∧Kept w w'
theorem Ph{f:FuncId}{fn:Func}{c:Code}(hf:P.funcs[f]?=some fn)(hb:fn.body=some c)(hn:(fn.name== "runtime.NumGoroutine")=false)(args:Array Value)(w:World) :
  (callFunc f args).run P w= .ok (.enter f args) w:=by
 have h1:fn.name≠ "runtime.NumGoroutine" :=by simpa using hn
 simp[callFunc,hf,h1,hb]
theorem AIa{w:World}{rs:List ResultVar}{vs:List Value}(g g':ResultVar→Sem Value)(h1:∀t,g (.tmp t)=g' (.tmp t))(h2:∀x t,g (.cell x t)=g' (.cell x t))
  (h:(rs.mapM g').run P w= .ok vs w):(rs.mapM g).run P w= .ok vs w:=by
 have:g=g':=by
  funext x
  cases x with
  |tmp t=>exact h1 t
  |cell x t=>exact h2 x t
 rw[this];exact h
theorem cV{ρ:AI}{S:St}{w:World}(hs:AW P w0 ρ S w){a:Ca}{ar:Act}(ha:Bh ρ a ar){fn:Func}{vs:List Value}(h:FL P a S fn.results.toList=some vs) :
  ∃C2:List Value,AS ρ vs C2∧(results fn ar.tmps).run P w= .ok (if h:C2.toArray.size=1 then C2.toArray[0]else .tuple C2.toArray) w:=by
 obtain⟨C2,p,q⟩:=AKC hs ha _ _ h
 refine⟨C2,q,?_⟩
 unfold results
 rw[Array.mapM_eq_mapM_toList,Sem.run_bind,Sem.run_map]
 have key:∀r:Result (List Value),r= .ok C2 w→((r.andThen fun a w'=> .ok a.toArray w').andThen fun a w'=>Sem.run P (pure (if h:a.size=1 then a[0]else Value.tuple a)) w') =
   .ok (if h:C2.toArray.size=1 then C2.toArray[0]else .tuple C2.toArray) w:=by
  rintro _ rfl
  simp only[Result.andThen_ok,Sem.run_pure]
 exact key _ (AIa _ _ (fun _=>rfl) (fun _ _=>rfl) p)
theorem wz{fn:Func}{a1:Ca}{S1 S':St}{e:Ending}(h:(match GS a1.defers S1 with
    |some GA=>match FL P a1 GA fn.results.toList with
     |some [v]=>some (Ending.returned v,GA)
     |some vs=>some (.returned (.tuple vs.toArray),GA)
     |none=>none
    |none=>none)=some (e,S')){ρ ρ2:AI}(h1:Ext ρ ρ2){ar:Act}{w2:World}(h3:Bh ρ2 a1 ar)(h4:AW P w0 ρ2 S1 w2) :
  LeavesInM Fence.wide 0 P fn ar.tmps (Fu P w0 ρ e S') ar.defers .returning w2:=by
 split at h
 ·rename_i S2 XI
  have key:∀vs,FL P a1 S2 fn.results.toList=some vs→S2=S'→e= .returned (match vs with| [v]=>v|vs=> .tuple vs.toArray) →
    LeavesInM Fence.wide 0 P fn ar.tmps (Fu P w0 ρ e S') ar.defers .returning w2:=by
   intro vs F2 hS he
   refine oQ (ρ:=ρ2) (S2:=S2) (by simp) (fun w3 aZ=>?_) a1.defers S1 ar.defers w2 XI h3.df h4
   obtain⟨C2,hv,hr⟩:=cV aZ h3 F2
   refine⟨_,hr,ρ2,h1,?_,by rw[←hS];exact aZ⟩
   rw[he]
   have hl:=hv.1
   match vs,C2,hv,hl with
   | [v],[v'],hv,_=>simp only[List.size_toArray,List.length_singleton,dite_true];exact .ret hv.head
   | [],[],hv,_=>exact .ret (VR.tuple' hv)
   |v::u::r,v'::u'::r',hv,_=>simp only[List.size_toArray,List.length_cons,Nat.add_eq_right];exact .ret (VR.tuple' hv)
   | [],_::_,_,hl=>simp at hl
   |_::_,[],_,hl=>simp at hl
   | [_],_::_::_,_,hl=>simp at hl
   |_::_::_,[_],_,hl=>simp at hl
  split at h
  ·rename_i v F2
   simp only[Option.some.injEq,Prod.mk.injEq]at h
   exact key _ F2 h.2 h.1.symm
  ·rename_i vs Ac F2
   simp only[Option.some.injEq,Prod.mk.injEq]at h
   refine key _ F2 h.2 ?_
   rw[←h.1]
   match vs,Ac with
   | [v],Ac=>exact absurd rfl (Ac v)
   | [],_=>rfl
   |_::_::_,_=>rfl
  cases h
 cases h
theorem AId(a b:Nat):El a b=max a b:=by
 unfold El
 cases h:Nat.ble a b with
 |true=>have:=Nat.le_of_ble_eq_true h;simp only[cond_true];omega
 |false =>
  have:¬a≤b:=fun e=>by rw[Nat.ble_eq_true_of_le e]at h;cases h
  simp only[cond_false];omega
theorem Zj{ρ:AI}{args:List Value}{args':Array Value}(hv:AS ρ args args'.toList){n:Nat}(hn:El n args.length≤256) :
  Bh ρ {n:=El n args.length,t:=PT.ofList 0 (PT.nil 8) args,defers:=[]} {tmps:=args'++Array.replicate (n-args'.size) undef,defers:=[]}:=by
 have hl:args.length=args'.size:=by have:=hv.1;simpa using this
 have hm:=AId n args.length
 refine⟨hn,⟨by simp only[Array.size_append,Array.size_replicate];omega,fun i=>?_⟩,.nil⟩
 have hg:Ow (PT.ofList 0 (PT.nil 8) args) i=(args[i]?).getD undef:=by
  unfold Ow
  rw[PT.gi args 0 _ i (by omega)]
  by_cases h:i<args.length
  ·rw[if_pos (by omega)]
   simp[h]
  rw[if_neg (by omega),PT.get_nil]
  simp[List.getElem?_eq_none (Nat.le_of_not_lt h)]
 rw[hg,Array.getD_eq_getD_getElem?]
 by_cases h:i<args.length
 ·obtain⟨v',h1,h2⟩:=hv.get (List.getElem?_eq_getElem h)
  rw[Array.getElem?_append_left (by omega),←Array.getElem?_toList,h1,List.getElem?_eq_getElem h]
  exact h2
 rw[List.getElem?_eq_none (Nat.le_of_not_lt h),Array.getElem?_append_right (by omega)]
 have:((Array.replicate (n-args'.size) undef)[i-args'.size]?).getD undef=undef:=by
  rw[Array.getElem?_replicate];split<;>rfl
 rw[this]
 exact VR.undef ρ
theorem AFB{ih:Ap}(Av:DU P w0 ih)(hK:eJ P K){f:FuncId}{args:List Value}{S S':St}{e:Ending}(h:Kz P K ih f args S=some (e,S'))
  {ρ:AI}{w:World}{args':Array Value}(hs:AW P w0 ρ S w)(hv:AS ρ args args'.toList):Kj P (Fu P w0 ρ e S') ((callFunc f args').run P w):=by
 unfold Kz at h
 split at h
 ·rename_i fn hf
  split at h
  ·rename_i c hb
   cases hc:((fn.name== "runtime.NumGoroutine")||Nat.blt 256 (El fn.ntmps args.length))with
   |true=>rw[hc]at h;cases h
   |false =>
    rw[hc]at h
    simp only[cond_false]at h
    rw[Bool.or_eq_false_iff]at hc
    rw[Ph hf hb hc.1]
    have hle:El fn.ntmps args.length≤256:=by
     have:=hc.2
     rw[PT.Ga]at this
     simpa using this
    show CallsIn Fence.wide 0 P f args' w (Fu P w0 ρ e S')
    split at h
    ·rename_i e1 a1 S1 hx
     refine callsIn_of_wp_marks hf hb trivial ?_
     refine wpIn_mono (Av.exec none c _ _ _ _ _ hx ρ w _ none hs (Zj hv hle) (.inl ⟨rfl,rfl⟩)) ?_
     rintro e2 DX w2 ⟨ρ2,h1,h2,h3,h4⟩
     cases h2 with
     |normal=>exact wz h h1 h3 h4
     |ret=>exact wz h h1 h3 h4
     |exit id=>cases h
     |Ab hp =>
      simp only at h
      split at h
      ·rename_i S2 XI
       simp only[Option.some.injEq,Prod.mk.injEq]at h
       obtain⟨rfl,rfl⟩:=h
       exact oQ (ρ:=ρ2) (S2:=S2) (by simp) (fun w3 aZ=>by exact⟨ρ2,h1,.Ab hp,aZ⟩) a1.defers S1 DX.defers w2 XI h3.df h4
      cases h
    cases h
  rename_i hb
  split at h
  ·rename_i v S1 hk
   simp only[Option.some.injEq,Prod.mk.injEq]at h
   obtain⟨rfl,rfl⟩:=h
   obtain⟨ρ',v',w',a,b,c,d⟩:=hK w0 f args v fn S _ hk hf hb ρ w args' hs hv
   rw[a]
   exact⟨ρ',b,.ret c,d⟩
  cases h
 cases h
end Go.Cm
namespace Go.Cm
open Go
variable{P:Program}{w0:Bi}{K:BX}
inductive Ey(ρ:AI):Mode→FrameMode→Prop
 |ret:Ey ρ .ret .returning
 |Ab {c c':List PanicEntry} (h:JI ρ c c'):Ey ρ (.Ab c) (.panicking c')
theorem Ey.mono{ρ ρ':AI}(e:Ext ρ ρ'){m:Mode}{u:FrameMode}(h:Ey ρ m u):Ey ρ' m u:=by
 cases h with
 |ret=>exact .ret
 |Ab h=>exact .Ab (h.mono e)
theorem Ey.ne{ρ:AI}{m:Mode}{u:FrameMode}(h:Ey ρ m u):u≠ .run:=by
 cases h<;>(intro h;cases h)
theorem JI.drop{ρ:AI}{c c':List PanicEntry}(h:JI ρ c c'):JI ρ (c.dropWhile (!·.goexit)) (c'.dropWhile (!·.goexit)):=by
 induction h with
 |nil=>exact .nil
 |cons r g h k ih =>
  cases g with
  |true=>exact .cons r true h k
  |false=>exact ih
theorem Ey.settle{ρ:AI}{m:Mode}{u:FrameMode}(h:Ey ρ m u):Ey ρ (nu m) (settle u):=by
 cases h with
 |ret=>exact .ret
 |Ab h =>
  cases h with
  |nil=>exact .Ab .nil
  |cons r g h k =>
   cases r with
   |false=>exact .Ab (.cons false g h k)
   |true =>
    have hd:=k.drop
    simp only[nu,Go.settle]
    revert hd
    generalize List.dropWhile _ _=a
    generalize List.dropWhile _ _=b
    intro hd
    cases hd with
    |nil=>exact .ret
    |cons r g h k=>exact .Ab (.cons r g h k)
theorem Ey.recover{ρ:AI}{m:Mode}{u:FrameMode}(h:Ey ρ m u)(c:Frame)(cs:List Frame) :
  (∃v' u',recoverD ({c with mode:=u}::cs)=some (v', {c with mode:=u'}::cs)∧VR ρ (VD m).1 v'∧Ey ρ (VD m).2 u') ∨
  (recoverD ({c with mode:=u}::cs)=none∧(VD m).1= .nilIface∧Ey ρ (VD m).2 u):=by
 cases h with
 |ret=>exact .inr ⟨rfl,rfl,.ret⟩
 |Ab h =>
  cases h with
  |nil=>exact .inr ⟨rfl,rfl,.Ab .nil⟩
  |cons r g h k =>
   cases r<;>cases g
   ·exact .inl ⟨_,_,rfl,h,.Ab (.cons true false h k)⟩
   ·exact .inr ⟨rfl,rfl,.Ab (.cons false true h k)⟩
   ·exact .inr ⟨rfl,rfl,.Ab (.cons true false h k)⟩
   exact .inr ⟨rfl,rfl,.Ab (.cons true true h k)⟩
theorem AOx{ρ:AI}{S S':St}{w:World}(hs:AW P w0 ρ S w){o:Oper}{f g:Operand→Value}(Ax:∀x,x∈o.op.operands→VR ρ (f x) (g x)){v:Value}(h:oM P f o.op S=some (v,S')) :
  NA P w0 ρ v S' ((execOp g o).run P w):=by
 unfold oM at h
 split at h
 ·split at h
  ·rename_i v hv
   cases h
   obtain⟨v',a,b⟩:=zI hs Ax hv
   exact⟨ρ,v',w,.inl a,Ext.refl _,b,hs⟩
  cases h
 ·exact xq hs Ax h
 split at h
 ·cases h
 ·cases h
 ·cases h
 exact uQ hs Ax h
theorem AHl{o:Oper}(h:isRec o=true)(g:Operand→Value)(w:World):(execOp g o).run P w= .ok .recover w:=by
 unfold isRec at h
 split at h
 ·rename_i c hc
  split at h
  ·rename_i hb
   obtain⟨cal,as,ts⟩:=c
   simp only at hb
   subst hb
   obtain⟨cs,e⟩:=nb (P:=P) g hc w
   rw[e]
   simp[builtin]
  cases h
 cases h
theorem AJi(ops:Array Oper):(List.range ops.size).map (fun i=>ops[i]?)=ops.toList.map some:=by
 apply List.ext_getElem?
 intro i
 simp only[List.getElem?_map,Array.getElem?_toList]
 by_cases h:i<ops.size
 ·simp[h]
 rw[List.getElem?_eq_none (by simpa using h),Array.getElem?_eq_none (by simpa using h)];rfl
theorem VH{ops:Array Oper}{a1:Ca}{S1:St}{m1:Mode}{c0:Frame}{cs:List Frame}{ρ0:AI}{Q:Exit→Act→List Frame→World→Prop}
  (hQ:∀ρ' C7 u' w',Ext ρ0 ρ'→Bh ρ' a1 C7→AW P w0 ρ' S1 w'→Ey ρ' m1 u'→Q .normal C7 ({c0 with mode:=u'}::cs) w') :
  ∀(rest:List Oper) (idx:List Nat),idx.map (fun i=>ops[i]?)=rest.map some→∀(a:Ca) (S:St) (m:Mode),R4 P ops.toList rest a S m=some (a1,S1,m1)→(∀o,o∈rest→NB P o) →
   ∀(ρ:AI) (w:World) (ar:Act) (u:FrameMode),Ext ρ0 ρ→AW P w0 ρ S w→Bh ρ a ar→Ey ρ m u→wpOpsSIn Fence.wide 0 P ops Q idx ar ({c0 with mode:=u}::cs) w
 | [],idx,hi,a,S,m,h,_,ρ,w,ar,u,hx,hs,ha,hm=>by
  simp only[R4,Option.some.injEq,Prod.mk.injEq]at h
  obtain⟨rfl,rfl,rfl⟩:=h
  have:idx= []:=by simpa using hi
  subst this
  exact hQ ρ ar u w hx ha hs hm
 |o::rest,[],hi,a,S,m,h,_,ρ,w,ar,u,hx,hs,ha,hm=>by simp at hi
 |o::rest,i::idx,hi,a,S,m,h,hc,ρ,w,ar,u,hx,hs,ha,hm=>by
  simp only[List.map_cons,List.cons.injEq]at hi
  obtain⟨hi,E5⟩:=hi
  have Fj:∀o,o∈rest→NB P o:=fun o ho=>hc o (by simp[ho])
  unfold R4 at h
  unfold wpOpsSIn
  simp only[hi]
  refine⟨fun _ _=>trivial,?_⟩
  rw[←Tg ha (ops:=ops) (o:=o)]
  cases hw:Du ops.toList a o with
  |false =>
   rw[hw]at h
   simp only[cond_false]at h
   simp only[Bool.false_eq_true,if_false]
   split at h
   ·rename_i a2 hp
    exact VH hQ rest idx E5 a2 S m h Fj ρ w _ u hx hs (ha.put hp (VR.undef _)) hm
   cases h
  |true =>
   rw[hw]at h
   simp only[cond_true]at h
   simp only[if_true]
   cases hr:isRec o with
   |true =>
    rw[hr]at h
    simp only[cond_true]at h
    rw[AHl hr]
    simp only
    split at h
    ·rename_i a2 hp
     rcases hm.recover c0 cs with ⟨v',u',e1,e2,e3⟩|⟨e1,e2,e3⟩
     ·rw[e1]
      simp only
      exact VH hQ rest idx E5 a2 S _ h Fj ρ w _ u' hx hs (ha.put hp e2) e3
     rw[e1]
     simp only
     refine VH hQ rest idx E5 a2 S _ h Fj ρ w _ u hx hs (ha.put hp ?_) e3
     rw[e2];exact .nilIface
    cases h
   |false =>
    rw[hr]at h
    simp only[cond_false]at h
    split at h
    ·rename_i v S2 BL
     split at h
     ·rename_i a2 hp
      obtain⟨ρ',v',w',e1,e2,e3,e4⟩:=AOx hs (ha.D3 hs (hc o (by simp))) BL
      rcases e1 with e1|⟨e1,rfl⟩
      ·rw[e1]
       simp only
       exact VH hQ rest idx E5 a2 S2 m h Fj ρ' w' _ u (hx.trans e2) e4 ((ha.mono e2).put hp e3) (hm.mono e2)
      rw[e1]
      simp only
      exact VH hQ rest idx E5 a2 S2 m h Fj ρ' w' _ u (hx.trans e2) e4 ((ha.mono e2).put hp e3) (hm.mono e2)
     cases h
    cases h
def ABe(P:Program)(w0:Bi)(ρ:AI)(c0:Frame)(cs:List Frame)(e:Exit)(a1:Ca)(S1:St)(m1:Mode):Exit→Act→List Frame→World→Prop:=fun e' C7 J5 w' =>
 ∃ρ' u',Ext ρ ρ'∧e'=e∧(e= .normal∨e= .ret)∧Bh ρ' a1 C7∧AW P w0 ρ' S1 w'∧Ey ρ' m1 u'∧J5= {c0 with mode:=u'}::cs
theorem eE{F:Fence}{n:Nat}{c:Code}{Q R:Exit→Act→List Frame→World→Prop}{a:Act}{cs:List Frame}{w:World}(h:c.wpSIn F n P Q a cs w)(k:∀e a cs w,Q e a cs w→R e a cs w):c.wpSIn F n P R a cs w :=
 fun b i hb hr hF aU=>let⟨e,a',J5,w',hl,hq,O4⟩:=h b i hb hr hF aU;⟨e,a',J5,w',hl,k _ _ _ _ hq,O4⟩
theorem WY{ih:Ap}(Av:DU P w0 ih){c0:Frame}{cs:List Frame}:∀(n:Nat) (code:Code) (a:Ca) (S:St) (m:Mode) (e:Exit) (a1:Ca) (S1:St) (m1:Mode),L7 P ih n code a S m=some (e,a1,S1,m1) →
  ∀(ρ:AI) (w:World) (ar:Act) (u:FrameMode),AW P w0 ρ S w→Bh ρ a ar→Ey ρ m u→code.wpSIn Fence.wide 0 P (ABe P w0 ρ c0 cs e a1 S1 m1) ar ({c0 with mode:=u}::cs) w
 |0,_,_,_,_,_,_,_,_,h,_,_,_,_,_,_,_=>by cases h
 |n+1,code,a,S,m,e,a1,S1,m1,h,ρ,w,ar,u,hs,ha,hm=>by
  unfold L7 at h
  split at h
  ·simp only[Option.some.injEq,Prod.mk.injEq]at h
   obtain⟨rfl,rfl,rfl,rfl⟩:=h
   exact wpSIn_of_wpIn rfl (wpIn_skip ⟨ρ,u,Ext.refl _,rfl,.inl rfl,ha,hs,hm,rfl⟩)
  ·simp only[Option.some.injEq,Prod.mk.injEq]at h
   obtain⟨rfl,rfl,rfl,rfl⟩:=h
   exact wpSIn_of_wpIn rfl (wpIn_ret ⟨ρ,u,Ext.refl _,rfl,.inr rfl,ha,hs,hm,rfl⟩)
  ·rename_i id ops
   cases hc:(!D' P ops.toList)with
   |true=>rw[hc]at h;cases h
   |false =>
    rw[hc]at h
    simp only[cond_false]at h
    simp only[Bool.not_eq_false']at hc
    split at h
    ·rename_i a2 S2 m2 hr
     simp only[Option.some.injEq,Prod.mk.injEq]at h
     obtain⟨rfl,rfl,rfl,rfl⟩:=h
     exact wpSIn_region (VH (ρ0:=ρ) (fun ρ' C7 u' w' h1 h2 h3 h4=>⟨ρ',u',h1,rfl,.inl rfl,h2,h3,h4,rfl⟩) ops.toList _ (AJi ops) a S m hr (Qj hc) ρ w ar u (Ext.refl _) hs ha hm)
    cases h
  ·rename_i x y
   refine wpSIn_seq ?_
   split at h
   ·rename_i a2 S2 m2 hx
    refine eE (WY Av n x a S m _ _ _ _ hx ρ w ar u hs ha hm) ?_
    rintro e2 DX EH w2 ⟨ρ2,u2,h1,rfl,_,h3,h4,h5,rfl⟩
    refine eE (WY Av n y a2 S2 m2 _ _ _ _ h ρ2 w2 DX u2 h4 h3 h5) ?_
    rintro e3 Y5 H3 w3 ⟨ρ3,u3,k1,k2,k3,k4,k5,k6,k7⟩
    exact⟨ρ3,u3,h1.trans k1,k2,k3,k4,k5,k6,k7⟩
   rename_i Ac
   refine eE (WY Av n x a S m _ _ _ _ h ρ w ar u hs ha hm) ?_
   rintro e2 DX EH w2 ⟨ρ2,u2,h1,rfl,h2,h3,h4,h5,rfl⟩
   rcases h2 with rfl|rfl
   ·exact absurd h (Ac _ _ _)
   exact⟨ρ2,u2,h1,rfl,.inr rfl,h3,h4,h5,rfl⟩
  ·rename_i c x y
   split at h
   ·rename_i t hc
    refine wpSIn_cond (fD ha hc) ?_
    cases t<;>exact WY Av n _ a S m _ _ _ _ h ρ w ar u hs ha hm
   cases h
  split at h
  ·rename_i a2 S2 hx
   simp only[Option.some.injEq,Prod.mk.injEq]at h
   obtain⟨rfl,rfl,rfl,rfl⟩:=h
   refine wpSIn_of_wpIn rfl (wpIn_mono (Av.exec none _ _ _ _ _ _ hx ρ w ar none hs ha (.inl ⟨rfl,rfl⟩)) ?_)
   rintro e2 DX w2 ⟨ρ2,h1,h2,h3,h4⟩
   cases h2
   exact⟨ρ2,u,h1,rfl,.inl rfl,h3,h4,hm.mono h1,rfl⟩
  cases h
theorem AFk(c:Frame){u:FrameMode}(h:c.mode=u):({c with mode:=u}:Frame)=c:=by subst h;rfl
theorem AEV{ih:Ap}(Av:DU P w0 ih){f:FuncId}{args:List Value}{args':Array Value}{m m1:Mode}{S S1:St}(h:T4 P ih f args m S=some (m1,S1)){ρ:AI}{w:World}{u:FrameMode}(hs:AW P w0 ρ S w)(hv:AS ρ args args'.toList)
  (hm:Ey ρ m u):(callFunc f args').run P w= .ok (.enter f args') w ∧
   CallsDIn Fence.wide 0 P f args' u w fun e u' w'=>∃v ρ',e= .returned v∧Ext ρ ρ'∧Ey ρ' m1 u'∧AW P w0 ρ' S1 w':=by
 unfold T4 at h
 split at h
 ·rename_i fn hf
  split at h
  ·rename_i c hb
   cases hc:((fn.name== "runtime.NumGoroutine")||Nat.blt 256 (El fn.ntmps args.length))with
   |true=>rw[hc]at h;cases h
   |false =>
    rw[hc]at h
    simp only[cond_false]at h
    rw[Bool.or_eq_false_iff]at hc
    have hle:El fn.ntmps args.length≤256:=by
     have:=hc.2
     rw[PT.Ga]at this
     simpa using this
    refine⟨Ph hf hb hc.1 args' w,callsDIn_of_wpSIn hf hb trivial fun c0 cs JY=>?_⟩
    split at h
    ·rename_i e1 a1 S2 m2 hx
     have:=WY (P:=P) (w0:=w0) Av (c0:=c0) (cs:=cs) 1000 c _ _ _ _ _ _ _ hx ρ w _ u hs (Zj hv hle) hm
     rw[AFk c0 JY]at this
     refine eE this ?_
     rintro e2 DX EH w2 ⟨ρ2,u2,h1,rfl,h2,h3,h4,h5,rfl⟩
     have fin:(match a1.defers,FL P a1 S2 fn.results.toList with
      | [],some _=>some (m2,S2)
      |_,_=>none)=some (m1,S1)→bodyPostS P fn c0 cs (fun e u' w'=>∃v ρ',e= .returned v∧Ext ρ ρ'∧Ey ρ' m1 u'∧AW P w0 ρ' S1 w') .normal DX ({c0 with mode:=u2}::cs) w2:=by
      intro h
      split at h
      ·rename_i vs hd hr
       simp only[Option.some.injEq,Prod.mk.injEq]at h
       obtain⟨rfl,rfl⟩:=h
       obtain⟨C2,_,UW⟩:=cV h4 h3 hr
       have H':=h3.df
       rw[hd]at H'
       refine⟨by generalize DX.defers=x at H';cases H';rfl,u2,rfl,_,UW,_,ρ2,rfl,h1,h5,h4⟩
      cases h
     rcases h2 with rfl|rfl
     ·exact fin h
     exact fin h
    cases h
  cases h
 cases h
theorem AH7{ih:Ap}(Av:DU P w0 ih){fn:Func}{tmps:Array Value}{R:Ending→World→Prop}{S2:St}{m2:Mode}{ρ0:AI}
  (ig:∀ρ2 u2 w2,Ext ρ0 ρ2→Ey ρ2 m2 u2→AW P w0 ρ2 S2 w2→LeavesIn Fence.wide 0 P fn tmps R [] u2 w2) :
  ∀(ds:List Deferred) (m:Mode) (S:St) (NU:List Deferred) (u:FrameMode) (ρ:AI) (w:World),IJ P ih ds m S=some (m2,S2)→Ext ρ0 ρ→IZ ρ ds NU→Ey ρ m u→AW P w0 ρ S w→LeavesInM Fence.wide 0 P fn tmps R NU u w:=by
 intro ds
 induction ds with
 |nil =>
  intro m S NU u ρ w h hx hd hm hs
  cases hd
  simp only[IJ,Option.some.injEq,Prod.mk.injEq]at h
  obtain⟨rfl,rfl⟩:=h
  exact ig ρ u w hx hm hs
 |cons d ds ih =>
  intro m S NU u ρ w h hx hd hm hs
  cases hd with
  |cons h1 h2 =>
   rename_i d' l'
   simp only[IJ]at h
   rcases h1 with ⟨r,L,hr,hL,FG⟩|⟨f,cap,BM,hr,FG,MH,O3⟩
   ·rw[hr]at h
    simp only at h
    split at h
    ·rename_i hB
     have hh:w.heap[L.r]?=some (.deferred (some [])):=hs.Bn _ _ _ hL hB
     have hp:=AW.put hs (B':= .defs true) hL hB rfl (pw hh (o':= .deferred none)) rfl
     exact⟨hm.ne,.inl ⟨L.r,_,FG,run_takeDeferred hh,ih _ _ _ _ _ _ h hx h2 hm hp⟩⟩
    cases h
   rw[hr]at h
   simp only at h
   split at h
   ·rename_i m3 S3 hcd
    obtain⟨c1,c2⟩:=AEV Av (args':=d'.args++BM) hcd hs (by rw[Array.toList_append];exact O3.append MH) hm
    refine⟨hm.ne,.inr ⟨fun h=>by simp[Fence.wide]at h,.func f,BM,f,d'.args++BM,FG,?_,fun _ _=>trivial,?_⟩⟩
    ·rw[FG];exact c1
    refine CallsDIn.mono c2 ?_
    rintro e u' w' ⟨v,ρ',rfl,k1,k2,k3⟩
    exact ih _ _ _ _ ρ' w' h (hx.trans k1) (h2.mono k1) k2.settle k3
   cases h
theorem AE9{fn:Func}{a1:Ca}{m2:Mode}{S2 S':St}{e:Ending}(h:Oo P a1 fn.results.toList (some (m2,S2))=some (e,S')){ρ ρ2:AI}(h1:Ext ρ ρ2){ar:Act}{w2:World}{u2:FrameMode}(h3:Bh ρ2 a1 ar)
  (hm:Ey ρ2 m2 u2)(h4:AW P w0 ρ2 S2 w2):LeavesIn Fence.wide 0 P fn ar.tmps (Fu P w0 ρ e S') [] u2 w2:=by
 cases hm with
 |Ab hp =>
  simp only[Oo,Option.some.injEq,Prod.mk.injEq]at h
  obtain⟨rfl,rfl⟩:=h
  exact⟨ρ2,h1,.Ab hp,h4⟩
 |ret =>
  simp only[Oo]at h
  have key:∀vs,FL P a1 S2 fn.results.toList=some vs→S2=S'→e= .returned (match vs with| [v]=>v|vs=> .tuple vs.toArray) →
    LeavesIn Fence.wide 0 P fn ar.tmps (Fu P w0 ρ e S') [] .returning w2:=by
   intro vs F2 hS he
   obtain⟨C2,hv,hr⟩:=cV h4 h3 F2
   refine⟨_,hr,ρ2,h1,?_,by rw[←hS];exact h4⟩
   rw[he]
   have hl:=hv.1
   match vs,C2,hv,hl with
   | [v],[v'],hv,_=>simp only[List.size_toArray,List.length_singleton,dite_true];exact .ret hv.head
   | [],[],hv,_=>exact .ret (VR.tuple' hv)
   |v::u::r,v'::u'::r',hv,_=>simp only[List.size_toArray,List.length_cons,Nat.add_eq_right];exact .ret (VR.tuple' hv)
   | [],_::_,_,hl=>simp at hl
   |_::_,[],_,hl=>simp at hl
   | [_],_::_::_,_,hl=>simp at hl
   |_::_::_,[_],_,hl=>simp at hl
  split at h
  ·rename_i v F2
   simp only[Option.some.injEq,Prod.mk.injEq]at h
   exact key _ F2 h.2 h.1.symm
  ·rename_i vs Ac F2
   simp only[Option.some.injEq,Prod.mk.injEq]at h
   refine key _ F2 h.2 ?_
   rw[←h.1]
   match vs,Ac with
   | [v],Ac=>exact absurd rfl (Ac v)
   | [],_=>rfl
   |_::_::_,_=>rfl
  cases h
theorem AHj{o:Oper}{c:Call}(ho:o.op= .defer c)(g:Operand→Value)(w:World){d:Deferred}(hr:(resolve g c o.type).run P w= .ok d w):(execOp g o).run P w= .ok (.defer d) w:=by
 simp[execOp,ho,hr]
theorem cZ{ih:Ap}(Av:DU P w0 ih){ops:Array Oper}{e:Exit}{a1:Ca}{S1:St}{Q:Exit→Act→World→Prop} :
  ∀(rest:List Oper) (a:Ca) (S:St),MY P ih ops.toList rest a S=some (e,a1,S1)→(∀o,o∈rest→NB P o)→∀(ρ:AI) (w:World) (ar:Act),AW P w0 ρ S w→Bh ρ a ar →
   (∀e' C7 w',Ib P w0 ρ e a1 S1 e' C7 w'→Q e' C7 w')→wpListIn (FW none) 0 P ops Q rest ar w
 | [],a,S,h,_,ρ,w,ar,hs,ha,hQ=>by
  simp only[MY,Option.some.injEq,Prod.mk.injEq]at h
  obtain⟨rfl,rfl,rfl⟩:=h
  exact hQ _ _ _ ⟨ρ,Ext.refl _,.normal,ha,hs⟩
 |o::rest,a,S,h,hc,ρ,w,ar,hs,ha,hQ=>by
  unfold MY at h
  have RR:=Tg ha (ops:=ops) (o:=o)
  unfold wpListIn
  rw[←RR]
  cases hw:Du ops.toList a o with
  |false =>
   rw[hw]at h
   simp only[cond_false]at h
   split at h
   ·rename_i a2 hp
    simp only[Bool.false_eq_true,if_false]
    exact⟨Ks,cZ Av rest a2 S h (fun o ho=>hc o (by simp[ho])) ρ w _ hs (ha.put hp (VR.undef _)) hQ⟩
   cases h
  |true =>
   rw[hw]at h
   simp only[cond_true]at h
   simp only[if_true]
   refine⟨Ks,?_⟩
   split at h
   ·rename_i c ho
    split at h
    ·rename_i d hd
     split at h
     ·rename_i a2 hp
      unfold sO at hd
      split at hd
      ·rename_i fv iQ
       split at hd
       ·rename_i fn first cap hf
        cases hd
        have u7:∀x,x∈o.op.operands→VR ρ (a.ev x) (ar.eval x):=ha.D3 hs (hc o (by simp))
        have hv:=u7 fv (by rw[ho];simp[Op.operands,Call.operands,iQ])
        rw[hf]at hv
        generalize hg:ar.eval fv=gv at hv
        cases hv with
        |func _ Iu hfr G1 hcr =>
         rename_i Qa a' b b'
         have jM:(resolve ar.eval c o.type).run P w= .ok {target:= .fn (.func fn) ⟨b'⟩,args:=⟨a'⟩++c.args.map ar.eval} w:=by
          simp[resolve,iQ,hg,Deferred.ofValue]
         show o.uponIn (FW none) 0 P ar _ Q ((execOp ar.eval o).run P w)
         rw[AHj ho _ _ jM]
         show wpListIn (FW none) 0 P ops Q rest _ w
         have Nf:Bh ρ {a with defers:={target:= .fn (.func fn) ⟨b⟩,args:=((⟨Qa⟩:Array Value).toList++c.args.toList.map a.ev).toArray}::a.defers} {ar with defers:={target:= .fn (.func fn) ⟨b'⟩,args:=⟨a'⟩++c.args.map ar.eval}::ar.defers}:=by
          refine⟨ha.le,ha.tm,.cons (.inr ⟨fn,⟨b⟩,⟨b'⟩,rfl,rfl,⟨G1,hcr⟩,?_⟩) ha.df⟩
          simp only[Array.toList_append]
          exact AS.append ⟨Iu,hfr⟩ (by
           have:=AS.PS (ρ:=ρ) (f:=a.ev) (g:=ar.eval) c.args.toList (fun x hx=>u7 x (by rw[ho];simp[Op.operands,Call.operands,iQ];exact .inr (by simpa using hx)))
           simpa using this)
         exact cZ Av rest a2 S h (fun o ho=>hc o (by simp[ho])) ρ w _ hs (Nf.put hp (VR.undef _)) hQ
       cases hd
      cases hd
     cases h
    cases h
   split at h
   ·rename_i v S2 BL
    split at h
    ·rename_i a2 hp
     refine Tc Av hs (ha.D3 hs (hc o (by simp))) BL ⟨?_,?_⟩
     ·intro v2 e2 ρ' v' w' h1 h2 h3
      cases e2
      exact cZ Av rest a2 S2 h (fun o ho=>hc o (by simp[ho])) ρ' w' _ h3 ((ha.mono h1).put hp h2) (fun e' C7 w' hg=>hQ _ _ _ (hg.mono h1))
     intro c e2;cases e2
    cases h
   ·rename_i ch S2 BL
    simp only[Option.some.injEq,Prod.mk.injEq]at h
    obtain⟨rfl,rfl,rfl⟩:=h
    refine Tc Av hs (ha.D3 hs (hc o (by simp))) BL ⟨?_,?_⟩
    ·intro v2 e2;cases e2
    intro c e2 ρ' c' w' h1 h2 h3
    cases e2
    exact hQ _ _ _ ⟨ρ',h1,.Ab h2,ha.mono h1,h3⟩
   cases h
theorem Wa{ih:Ap}(Av:DU P w0 ih):∀(n:Nat) (code:Code) (a:Ca) (S:St) (e:Exit) (a1:Ca) (S1:St),K0 P ih n code a S=some (e,a1,S1) →
  ∀(ρ:AI) (w:World) (ar:Act),AW P w0 ρ S w→Bh ρ a ar→code.wpIn (FW none) 0 P (Ib P w0 ρ e a1 S1) ar w
 |0,_,_,_,_,_,_,h,_,_,_,_,_=>by cases h
 |n+1,code,a,S,e,a1,S1,h,ρ,w,ar,hs,ha=>by
  unfold K0 at h
  split at h
  ·rename_i id ops draw
   cases hd:iM ops.toList with
   |false =>
    rw[hd]at h
    exact Av.exec _ _ _ _ _ _ _ h ρ w ar none hs ha (.inl ⟨rfl,rfl⟩)
   |true =>
    rw[hd]at h
    simp only[cond_true]at h
    cases hc:(draw||!D' P ops.toList)with
    |true=>rw[hc]at h;cases h
    |false =>
     rw[hc]at h
     simp only[cond_false]at h
     simp only[Bool.or_eq_false_iff,Bool.not_eq_false']at hc
     obtain⟨rfl,hc⟩:=hc
     exact wpIn_region_list (cZ Av ops.toList a S h (Qj hc) ρ w ar hs ha fun _ _ _ h=>h)
  ·rename_i x y
   refine wpIn_seq ?_
   split at h
   ·rename_i a2 S2 hx
    refine wpIn_mono (Wa Av n x _ _ _ _ _ hx ρ w ar hs ha) ?_
    rintro e2 DX w2 ⟨ρ2,h1,h2,h3,h4⟩
    cases h2
    exact wpIn_mono (Wa Av n y _ _ _ _ _ h ρ2 w2 DX h4 h3) fun _ _ _ hg=>hg.mono h1
   rename_i Ac
   refine wpIn_mono (Wa Av n x _ _ _ _ _ h ρ w ar hs ha) ?_
   rintro e2 DX w2 ⟨ρ2,h1,h2,h3,h4⟩
   cases h2 with
   |normal=>exact absurd h (Ac _ _)
   |exit id=>exact⟨ρ2,h1,.exit id,h3,h4⟩
   |ret=>exact⟨ρ2,h1,.ret,h3,h4⟩
   |Ab hp=>exact⟨ρ2,h1,.Ab hp,h3,h4⟩
  ·rename_i c x y
   split at h
   ·rename_i t hc
    refine wpIn_cond (fD ha hc) ?_
    cases t<;>exact Wa Av n _ _ _ _ _ _ h ρ w ar hs ha
   cases h
  exact Av.exec _ _ _ _ _ _ _ h ρ w ar none hs ha (.inl ⟨rfl,rfl⟩)
theorem AFD{ih:Ap}(Av:DU P w0 ih){f:FuncId}{args:List Value}{S S':St}{e:Ending}(h:Qm P ih f args S=some (e,S'))
  {ρ:AI}{w:World}{args':Array Value}(hs:AW P w0 ρ S w)(hv:AS ρ args args'.toList):Kj P (Fu P w0 ρ e S') ((callFunc f args').run P w):=by
 unfold Qm at h
 split at h
 ·rename_i fn hf
  split at h
  ·rename_i c hb
   cases hc:((fn.name== "runtime.NumGoroutine")||Nat.blt 256 (El fn.ntmps args.length))with
   |true=>rw[hc]at h;cases h
   |false =>
    rw[hc]at h
    simp only[cond_false]at h
    rw[Bool.or_eq_false_iff]at hc
    rw[Ph hf hb hc.1]
    have hle:El fn.ntmps args.length≤256:=by
     have:=hc.2
     rw[PT.Ga]at this
     simpa using this
    show CallsIn Fence.wide 0 P f args' w (Fu P w0 ρ e S')
    split at h
    ·rename_i e1 a1 S1 hx
     refine callsIn_of_wp_marks hf hb trivial ?_
     refine wpIn_mono (Wa Av 1000 c _ _ _ _ _ hx ρ w _ hs (Zj hv hle)) ?_
     rintro e2 DX w2 ⟨ρ2,h1,h2,h3,h4⟩
     have key:∀m u,Ey ρ2 m u→Oo P a1 fn.results.toList (IJ P ih a1.defers m S1)=some (e,S')→LeavesInM Fence.wide 0 P fn DX.tmps (Fu P w0 ρ e S') DX.defers u w2:=by
      intro m u hm h
      cases hl:IJ P ih a1.defers m S1 with
      |none=>rw[hl]at h;cases h
      |some x =>
       obtain⟨m3,S3⟩:=x
       rw[hl]at h
       refine AH7 Av (ρ0:=ρ2) (fun ρ3 u3 w3 k1 k2 k3=>?_) a1.defers m S1 DX.defers u ρ2 w2 hl (Ext.refl _) h3.df hm h4
       exact AE9 h (h1.trans k1) (h3.mono k1) k2 k3
     cases h2 with
     |normal=>exact key _ _ .ret h
     |ret=>exact key _ _ .ret h
     |exit id=>cases h
     |Ab hp=>exact key _ _ (.Ab hp) h
    cases h
  cases h
 cases h
end Go.Cm
namespace Go.Cm
open Go
variable{P:Program}{w0:Bi}{K:BX}
theorem WO{ih:Ap}(Av:DU P w0 ih)(hK:Jz P K w0.toWorld){f:FuncId}{args:List Value}{S S':St}{e:Ending}(h:Hb P K ih f args S=some (e,S'))
  {ρ:AI}{w:World}{args':Array Value}(hs:AW P w0 ρ S w)(hv:AS ρ args args'.toList):Kj P (Fu P w0 ρ e S') ((callFunc f args').run P w):=by
 unfold Hb at h
 split at h
 ·rename_i v hc
  cases h
  obtain⟨Iu,fn,c,hf,hb,hn,JZ⟩:=hK.call f args S v hc
  rw[Ph hf hb hn]
  show CallsIn Fence.wide 0 P f args' w _
  refine callsIn_wide.2 ((JZ w0 ρ w args' rfl hs hv).mono ?_)
  rintro e' w' ⟨rfl,hk⟩
  exact⟨ρ,Ext.refl _,.ret (Iu ρ),hs.later hk⟩
 cases hd:K.defers f with
 |true=>rw[hd]at h;exact AFD Av h hs hv
 |false=>rw[hd]at h;exact AFB Av hK.ext h hs hv
theorem ANI{ρ:AI}{n:Nat}(hn:n≤256)(g:Array Value→Tmp×Value→Array Value)(hg:∀tm t a,g tm (t,a)=tm.setIfInBounds t a) :
  ∀(ps:List Tmp) (vs C2:List Value) (t t':Tm) (tmps:Array Value),YN n t ps vs=some t'→AS ρ vs C2→GC ρ n t tmps →
   C2.length=ps.length∧GC ρ n t' ((ps.zip C2).foldl g tmps):=by
 intro ps
 induction ps with
 |nil =>
  intro vs C2 t t' tmps h hv ht
  cases vs with
  |nil =>
   simp only[YN,Option.some.injEq]at h
   subst h
   have:=hv.HR
   subst this
   exact⟨rfl,ht⟩
  |cons v vs=>cases h
 |cons p ps ih =>
  intro vs C2 t t' tmps h hv ht
  cases vs with
  |nil=>cases h
  |cons v vs =>
   obtain⟨v',l',rfl,h1,h2⟩:=hv.cons_inv
   simp only[YN]at h
   cases hb:Nat.blt p n with
   |false=>rw[hb]at h;cases h
   |true =>
    rw[hb]at h
    simp only[cond_true]at h
    obtain⟨q1,q2⟩:=ih vs l' _ t' (tmps.setIfInBounds p v') h h2 (ht.set (Gk hb) hn h1)
    refine⟨by simp[q1],?_⟩
    simp only[List.zip_cons_cons,List.foldl_cons,hg]
    exact q2
theorem AKH{ih:Ap}(Av:DU P w0 ih){l:Nat}{args:List Value}{S S':St}{e:Ending}(h:VF ih l args S=some (e,S'))
  {ρ:AI}{w:World}{args':Array Value}{L:Loc}(hs:AW P w0 ρ S w)(hl:ρ l=some L)(hv:AS ρ args args'.toList):Kj P (Fu P w0 ρ e S') ((Instr.yield L.r args').run P w):=by
 unfold VF at h
 split at h
 ·rename_i p n t ps x y d HI
  cases hn:Nat.blt 256 n with
  |true=>rw[hn]at h;cases h
  |false =>
   rw[hn]at h
   simp only[cond_false]at h
   rw[PT.Ga]at hn
   have hn:n≤256:=by simpa using hn
   split at h
   ·rename_i t' Iz
    obtain⟨fn,tmps,D,q1,q2,q3⟩:=hs.Bn _ _ _ hl (Rl HI)
    obtain⟨hlen,hT⟩:=ANI hn (fun(tmps:Array Value) (x:Tmp×Value)=>tmps.setIfInBounds x.1 x.2) (fun _ _ _=>rfl) ps args args'.toList t t' tmps Iz hv q2
    rw[run_yield q1 (by simpa using hlen)]
    show RoundIn Fence.wide 0 P L.r fn _ x y w _
    have AGU:(ps.toArray.zip args').foldl (fun tmps x=>match x with|(t,a)=>tmps.setIfInBounds t a) tmps=(ps.zip args'.toList).foldl (fun(tmps:Array Value) (x:Tmp×Value)=>tmps.setIfInBounds x.1 x.2) tmps:=by
     rw[←Array.foldl_toList,Array.toList_zip]
    split at h
    ·rename_i a1 S1 hx
     refine roundIn_of_wpIn trivial ?_
     have uR:=Av.exec (some l) x _ _ _ _ _ hx ρ w {tmps:=(ps.zip args'.toList).foldl (fun(tmps:Array Value) (x:Tmp×Value)=>tmps.setIfInBounds x.1 x.2) tmps,defers:=[]} (some L.r) hs ⟨hn,hT,.nil⟩ (.inr ⟨l,L,rfl,hl,rfl⟩)
     rw[←AGU]at uR
     refine wpIn_mono uR ?_
     rintro e2 DX w2 ⟨ρ2,h1,h2,h3,h4⟩
     cases h2
     split at h
     ·rename_i p1 n1 t1 Pc x1 y1 d1 AGd
      obtain⟨r,hr,BL,hp,Iy⟩:=AW.X' (st':= .busy) (p':=p1) h4 (h1 _ _ hl) (Rl AGd)
      have hbr:=run_beginRound (P:=P) hr BL
      rw[←hp]at Iy
      refine⟨_,hbr,?_⟩
      split at h
      ·rename_i e3 a3 S3 hy
       rw[←hp]at hy
       refine wpIn_mono (Av.exec (some l) y _ _ _ _ _ hy ρ2 _ DX (some L.r) Iy h3 (.inr ⟨l,L,rfl,h1 _ _ hl,rfl⟩)) ?_
       rintro e4 ar4 w4 ⟨ρ4,k1,k2,k3,k4⟩
       split at h
       ·rename_i st2 p2 n2 t2 U' x2 y2 d2 iw
        have W4:=k1 _ _ (h1 _ _ hl)
        cases k2 with
        |normal =>
         simp only[Option.some.injEq,Prod.mk.injEq]at h
         obtain⟨rfl,rfl⟩:=h
         obtain⟨r,hr,BL,hp,XG⟩:=AW.X' (st':= .ready) (p':=none) k4 W4 (Rl iw)
         exact⟨_,_,run_endRound none hr,ρ4,h1.trans k1,.ret (.bool _),XG⟩
        |ret =>
         simp only[Option.some.injEq,Prod.mk.injEq]at h
         obtain⟨rfl,rfl⟩:=h
         obtain⟨r,hr,BL,hp,XG⟩:=AW.X' (st':= .done) (p':=some .ret) k4 W4 (Rl iw)
         exact⟨_,_,run_endRound (some .ret) hr,ρ4,h1.trans k1,.ret (.bool _),XG⟩
        |exit id =>
         simp only[Option.some.injEq,Prod.mk.injEq]at h
         obtain⟨rfl,rfl⟩:=h
         obtain⟨r,hr,BL,hp,XG⟩:=AW.X' (st':= .done) (p':=some (.exit id)) k4 W4 (Rl iw)
         exact⟨_,_,run_endRound (some (.exit id)) hr,ρ4,h1.trans k1,.ret (.bool _),XG⟩
        |Ab hp=>cases h
       cases h
      cases h
     cases h
    cases h
   cases h
 cases h
theorem zD{t e:TypeId}(h:P.underlying t=some (.pointer e))(v:Value)(wr:Option String)(w:World):(receiverAt t (.val v) true wr).run P w= .ok v w:=by
 simp[receiverAt,A3 w h,Place.get]
theorem zE{t:TypeId}{d:TypeDesc}(h:P.underlying t=some d)(hd:∀e,d≠ .pointer e)(v:Value)(wr:Option String)(w:World):(receiverAt t (.val v) false wr).run P w= .ok v w:=by
 cases d<;>first
  |exact absurd rfl (hd _)
  |simp[receiverAt,A3 w h,Place.get]
theorem AM4(ts:Array TypeId)(t:TypeId)(ad:Addr)(m:String)(w:World):(Builtin.ssaWrapNilChk_ ts t #[.pointer (some ad),strVal "",strVal m]).run P w= .ok (.pointer (some ad)) w:=by
 rfl
theorem zC{ρ:AI}{S:St}{w:World}(hs:AW P w0 ρ S w){t e:TypeId}(hu:P.underlying t=some (.pointer e)){v v' x:Value}(h:De P e v S=some x)(hv:VR ρ v v') :
  ∃x',(∀wr:Option String,(receiverAt t (.val v') false wr).run P w= .ok x' w)∧VR ρ x x':=by
 obtain⟨x',p1,q1⟩:=lZ hs h hv
 refine⟨x',fun wr=>?_,q1⟩
 have hp:∃ad,v'= .pointer (some ad):=by
  unfold De at h
  split at h
  ·cases hv with
   |ptr _=>exact⟨_,rfl⟩
  cases h
 obtain⟨ad,rfl⟩:=hp
 have p2:(loadVar e ad).run P w= .ok x' w:=by simpa [Instr.loadAt,Instr.sureAddr]using p1
 have p3:(asAddr (.pointer (some ad))).run P w= .ok ad w:=by simp[asAddr]
 cases wr with
 |none=>simp[receiverAt,A3 w hu,Place.get,p2,p3]
 |some m=>simp[receiverAt,A3 w hu,Place.get,p2,p3,AM4]
theorem AIk{ρ:AI}{S:St}{w:World}(hs:AW P w0 ρ S w){t:TypeId}{v x v':Value}{name:String}{f:FuncId}(h:methodOf P t v name S=some (f,x))(hv:VR ρ v v') :
  ∃x',(∀n,(method (n+1) t v' name).run P w= .ok (f,x') w)∧VR ρ x x':=by
 unfold methodOf at h
 split at h
 ·rename_i i hi
  split at h
  ·rename_i m hm
   cases hp:m.path.isEmpty with
   |false=>rw[hp]at h;cases h
   |true =>
    rw[hp]at h
    simp only[cond_true]at h
    have jF:m.path.toList= []:=by simpa using hp
    split at h
    ·rename_i g ptr Q8
     have key:∀x',(∀wr:Option String,(receiverAt t (.val v') ptr wr).run P w= .ok x' w)→∀n,(method (n+1) t v' name).run P w= .ok (g,x') w:=by
      intro x' hx n
      simp[method,MZ w hi,hm,jF,follow,Q8,hx]
     split at h
     ·rename_i e hu
      simp only[Option.some.injEq,Prod.mk.injEq]at h
      obtain⟨rfl,rfl⟩:=h
      exact⟨v',key _ (fun wr=>zD hu v' wr w),hv⟩
     ·rename_i e hu
      split at h
      ·rename_i y hy
       simp only[Option.some.injEq,Prod.mk.injEq]at h
       obtain⟨rfl,rfl⟩:=h
       obtain⟨x',a,b⟩:=zC hs hu hy hv
       exact⟨x',key _ a,b⟩
      cases h
     ·rename_i dd Ac hu
      simp only[Option.some.injEq,Prod.mk.injEq]at h
      obtain⟨rfl,rfl⟩:=h
      exact⟨v',key _ (fun wr=>zE hu (fun e he=>Ac e he) v' wr w),hv⟩
     cases h
    cases h
  cases h
 cases h
theorem AM2{t:TypeId}{v:Value}{name:String}{cap rest:Array Value}{w:World}{f:FuncId}{x:Value}(h:∀n,(method (n+1) t v name).run P w= .ok (f,x) w) :
  (invoke (.fn (.method name) cap) (#[.iface t v]++rest)).run P w=(callFunc f (#[x]++rest)).run P w:=by
 have e:∃n,P.types.size+Made.depth=n+1:=⟨P.types.size+Made.depth-1,by
  have:0<Made.depth:=by decide
  omega⟩
 obtain⟨n,hn⟩:=e
 have h0:(#[Value.iface t v]++rest)[0]?=some (.iface t v):=by rw[←Array.getElem?_toList,Array.toList_append];rfl
 simp[invoke,h0,callMethod,hn,h n]
theorem ng{t:TypeId}{path:Array FieldStep}{f:FuncId}{ptr:Bool}{v x:Value}{cap rest:Array Value}{w:World}(hp:path.isEmpty=true)(h:(receiverAt t (.val v) ptr none).run P w= .ok x w) :
  (invoke (.fn (.via t path f ptr) cap) (#[v]++rest)).run P w=(callFunc f (#[x]++rest)).run P w:=by
 have jF:path.toList= []:=by simpa using hp
 have h0:(#[v]++rest)[0]?=some v:=by rw[←Array.getElem?_toList,Array.toList_append];rfl
 simp[invoke,h0,receiverVia,jF,follow,h]
theorem qc{l:Array Value}{v:Value}{r:List Value}(h:l.toList=v::r):l= #[v]++r.toArray:=by
 apply Array.ext';simp[h]
theorem AEX{ih:Ap}(Av:DU P w0 ih)(hK:Jz P K w0.toWorld):∀t args S e S',NR P K ih t args S=some (e,S')→∀ρ w t' args',AW P w0 ρ S w→V2 ρ t t'→AS ρ args args'.toList →
  Kj P (Fu P w0 ρ e S') ((invoke t' args').run P w):=by
 intro t args S e S' h ρ w t' args' hs ht hv
 obtain⟨fn,H5,cap,BM,rfl,rfl,hf⟩:=ht
 unfold NR at h
 split at h
 ·rename_i f WG he
  cases he
  cases hf with
  |func f _ _ hc k =>
   rename_i a' c c'
   show Kj P _ ((callFunc f (args'++_)).run P w)
   refine WO Av hK h hs ?_
   rw[Array.toList_append]
   exact hv.append ⟨hc,k⟩
 ·rename_i l WG he
  cases he
  cases hf with
  |yield hl=>exact AKH Av h hs hl hv
 ·rename_i name WG he
  cases he
  cases hf with
  |method _ _ _ hc k =>
   split at h
   ·rename_i t v rest
    split at h
    ·rename_i f r hm
     obtain⟨v',l',he,D4,IF⟩:=hv.cons_inv
     cases D4 with
     |iface _ aX =>
      rename_i u'
      rw[qc he]
      obtain⟨x',ha,hb⟩:=AIk hs hm aX
      rw[AM2 ha]
      refine WO Av hK h hs ?_
      simp only[Array.toList_append]
      exact AS.cons hb IF
    cases h
   cases h
 ·rename_i t path f ptr WG he
  cases he
  cases hf with
  |via _ _ _ _ _ _ hc k =>
   split at h
   ·rename_i x rest
    obtain⟨v',l',he,D4,IF⟩:=hv.cons_inv
    cases hp:path.isEmpty with
    |false=>rw[hp]at h;cases h
    |true =>
     rw[hp]at h
     simp only[cond_true]at h
     rw[qc he]
     split at h
     ·rename_i e hu
      rw[ng hp (zD hu v' none w)]
      refine WO Av hK h hs ?_
      simp only[Array.toList_append]
      exact AS.cons D4 IF
     ·rename_i e hu
      split at h
      ·rename_i y hy
       obtain⟨x',a,b⟩:=zC hs hu hy D4
       rw[ng hp (a none)]
       refine WO Av hK h hs ?_
       simp only[Array.toList_append]
       exact AS.cons b IF
      cases h
     ·rename_i dd Ac hu
      rw[ng hp (zE hu (fun e he=>Ac e he) v' none w)]
      refine WO Av hK h hs ?_
      simp only[Array.toList_append]
      exact AS.cons D4 IF
     cases h
   cases h
 cases h
end Go.Cm
namespace Go.Cm
open Go
variable{P:Program}{w0:Bi}{K:BX}
def Le(S S':St):Prop:= ∀b B,S.get b=some B→S'.get b=some B
theorem AIN{S S':St}(hl:Le S S'){t:TypeId}{x v:Value}(h:De P t x S=some v):De P t x S'=some v:=by
 unfold De at h ⊢
 split at h
 ·rename_i b o
  split at h
  ·rename_i c e r ow k hg
   rw[hl _ _ hg];exact h
  cases h
 cases h
theorem AKJ{S S':St}(hl:Le S S'){b z:Nat}(h:I8 P S b z=true):I8 P S' b z=true:=by
 unfold I8 at h ⊢
 cases hg:S.get b with
 |none=>rw[hg]at h;cases h
 |some B=>rw[hl _ _ hg];rw[hg]at h;exact h
theorem AJU{S S':St}(hl:Le S S'){b:Nat}(h:Ru S b=true):Ru S' b=true:=by
 unfold Ru at h ⊢
 cases hg:S.get b with
 |none=>rw[hg]at h;cases h
 |some B=>rw[hl _ _ hg];rw[hg]at h;exact h
theorem AIc{S S':St}(hl:Le S S'){x:Value}{es:List MapEntry}(h:mapOf S x=some es):mapOf S' x=some es:=by
 unfold mapOf at h ⊢
 split at h
 ·exact h
 ·rename_i r
  split at h
  ·rename_i BP c hg
   rw[hl _ _ hg];exact h
  cases h
 cases h
theorem AIR{S S':St}(hl:Le S S'){t:TypeId}{x i v:Value}{ok:Bool}(h:N3 P t x i ok S=some v):N3 P t x i ok S'=some v:=by
 unfold N3 at h ⊢
 split at h
 ·rename_i key elem hu
  split at h
  ·rename_i es hm
   rw[AIc hl hm]
   exact h
  cases h
 cases h
theorem AH'{S S':St}(hl:Le S S'){t:TypeId}{x v:Value}(h:Fo P t x S=some v):Fo P t x S'=some v:=by
 unfold Fo at h ⊢
 split at h
 all_goals (try simp only[*])
 all_goals (try exact h)
 rename_i r hu
 split at h
 ·rename_i es c hg
  rw[hl _ _ hg];exact h
 cases h
theorem ANN{S S':St}(hl:Le S S'){t:TypeId}{x v:Value}{lo hi mx:Option Value}(h:Fq P t x lo hi mx S=some v):Fq P t x lo hi mx S'=some v:=by
 unfold Fq at h ⊢
 split at h
 ·exact h
 ·rename_i elem hu
  split at h
  ·rename_i a len cap
   split at h
   ·rename_i z l hh m h1 h2
    split at h
    ·exact h
    ·rename_i b o
     cases hr:I8 P S b z with
     |false=>rw[hr]at h;cases h
     |true=>rw[hr]at h;rw[AKJ hl hr];exact h
    exact h
   cases h
  cases h
 ·rename_i n elem hu
  split at h
  ·rename_i b o
   split at h
   ·rename_i z l hh m h1 h2
    cases hr:Ru S b with
    |false=>rw[hr]at h;cases h
    |true=>rw[hr]at h;rw[AJU hl hr];exact h
   cases h
  cases h
 cases h
theorem AJ1{S S':St}(hl:Le S S'){f:Operand→Value}{op:Op}{v:Value}(h:CF P f op S=some v):CF P f op S'=some v:=by
 unfold CF at h ⊢
 split at h
 ·exact AIN hl h
 ·exact ANN hl h
 ·exact AIR hl h
 ·split at h
  ·rename_i x t rest ha ht
   exact AH' hl h
  cases h
 exact h
theorem AJ0{f:Operand→Value}{op:Op}{v:Value}{S S':St}(hn:looks op=false)(h:CF P f op S=some v):CF P f op S'=some v:=by
 unfold CF at h ⊢
 split at h<;>first
  |(simp[looks]at hn;done)
  |exact h
theorem AW.ASN{w0:World}{no no':Nat→Bool}{ρ:AI}{S:St}{w:World}(h:AW P ⟨w0,no⟩ ρ S w)(B:AF)(hn:∀x,no' x=true→no x=true∨x=S.size) :
  AW P ⟨w0,no'⟩ ρ ⟨S.heap.set S.size (some B),S.size+1⟩ w:=by
 have key:∀c L,ρ c=some L→(⟨S.heap.set S.size (some B),S.size+1⟩:St).get c=S.get c:=by
  intro c L hc
  have:=(h.Dj c L hc).1
  simp only[St.get,Cr.Hd]
  rw[if_neg (by omega)]
 refine⟨h.size,h.old,h.os,h.out,fun b L hb=>⟨by have:=(h.Dj b L hb).1;show b<S.size+1;omega,(h.Dj b L hb).2⟩,fun b L C hb hC=>?_,fun b L C hb hC hm=>?_,h.KE,fun b hb=>?_⟩
 ·rw[key b L hb]at hC
  exact h.Bn b L C hb hC
 ·rw[key b L hb]at hC
  refine⟨(h.own b L C hb hC hm).1,fun b' L' B' Bj hr EC Ac=>?_⟩
  rw[key b' L' Bj]at EC
  exact(h.own b L C hb hC hm).2 b' L' B' Bj hr EC Ac
 rcases hn b hb with h1|h1
 ·have:=h.no b h1
  exact⟨this.1,by show b<S.size+1;omega⟩
 subst h1
 refine⟨?_,by show S.size<S.size+1;omega⟩
 cases hx:ρ S.size with
 |none=>rfl
 |some M=>exact absurd (h.Dj _ _ hx).1 (Nat.lt_irrefl _)
theorem AW.born{w0:World}{no no':Nat→Bool}{ρ:AI}{S:St}{w:World}(h:AW P ⟨w0,no⟩ ρ S w){b:Nat}{B:AF}(hb:no b=true)(hB:S.get b=some B)
  (hn:∀x,no' x=true→no x=true∧x≠b){o:Obj}{L:Loc}(hr:L.r=w.heap.size)(hk:Jy P ρ B (some o) L) :
  Ext ρ (Bb ρ b L)∧AW P ⟨w0,no'⟩ (Bb ρ b L) S (w.alloc o):=by
 have Jb:=(h.no b hb).1
 have GI:=Ot L Jb
 refine⟨GI,⟨by rw[World.size_alloc];have:w0.heap.size≤w.heap.size:=h.size;show w0.heap.size≤w.heap.size+1;omega,fun i hi=>?_,h.os,h.out,fun c M hc=>?_,fun c M C hc hC=>?_,fun c M C hc hC hm=>?_,fun g hg=>let⟨M,a,b⟩:=h.KE g hg;⟨M,GI _ _ a,b⟩,fun x hx=>?_⟩⟩
 ·rw[heap_alloc_old (by have:w0.heap.size≤w.heap.size:=h.size;have:i<w0.heap.size:=hi;omega)];exact h.old i hi
 ·rw[World.size_alloc]
  unfold Bb at hc
  split at hc
  ·rename_i e;cases hc;subst e;exact⟨(h.no c hb).2,by omega⟩
  have:=h.Dj c M hc;omega
 ·unfold Bb at hc
  by_cases e:c=b
  ·rw[if_pos e]at hc
   cases hc
   subst e
   rw[hB]at hC
   cases hC
   rw[hr,heap_alloc_new]
   exact hk.mono GI
  rw[if_neg e]at hc
  rw[heap_alloc_old (h.Dj c M hc).2]
  exact(h.Bn c M C hc hC).mono GI
 ·unfold Bb at hc
  by_cases e:c=b
  ·rw[if_pos e]at hc
   cases hc
   refine⟨by have:w0.heap.size≤w.heap.size:=h.size;show w0.heap.size≤L.r;omega,fun b' L' B' Bj FG EC Ac=>?_⟩
   unfold Bb at Bj
   rw[if_neg (by rw[e]at Ac;exact Ac)]at Bj
   have:=(h.Dj b' L' Bj).2
   omega
  rw[if_neg e]at hc
  refine⟨(h.own c M C hc hC hm).1,fun b' L' B' Bj FG EC Ac=>?_⟩
  unfold Bb at Bj
  by_cases e':b'=b
  ·rw[if_pos e']at Bj
   cases Bj
   have:=(h.Dj c M hc).2
   omega
  rw[if_neg e']at Bj
  exact(h.own c M C hc hC hm).2 b' L' B' Bj FG EC Ac
 have h1:=hn x hx
 have:=h.no x h1.1
 refine⟨?_,this.2⟩
 unfold Bb
 rw[if_neg h1.2]
 exact this.1
def qD(P:Program)(o:Oper)(f:Operand→Value)(B:AF)(mk:Nat→Value):Prop :=
 ∀(ρ:AI) (g:Operand→Value) (w:World),(∀x,x∈o.op.operands→VR ρ (f x) (g x)) →
  ∃(ob:Obj) (L:Loc) (v':Value),(execOp g o).run P w= .ok (.value v') (w.alloc ob)∧L.r=w.heap.size∧Jy P ρ B (some ob) L∧(∀(ρ':AI) (b:Nat),ρ' b=some L→VR ρ' (mk b) v')
theorem r9{ρ:AI}{v v':Value}(hv:VR ρ v v')(e:TypeId)(r:Nat):Jy P ρ (.cells (BG v) e false true []) (some (.cells v'.cells e)) ⟨r,0,v'.cells.size,0⟩:=by
 have hc:=hv.cells
 rw[JM v']at hc
 refine⟨v'.cells,e,(0,0),rfl,rfl,fun i x hx=>?_,fun _ j _ hj=>by simp at hj,(fun h=>nomatch h),fun _=>⟨rfl,rfl,by rw[hc.1];simp⟩,fun _ _=>rfl⟩
 obtain⟨x',a,b⟩:=hc.get hx
 exact⟨x',by rw[←Array.getElem?_toList];simpa using a,b⟩
theorem AIy{S S':St}{o:Oper}{f:Operand→Value}{v:Value}(h:DY P f o.op S=some (v,S')) :
  ∃(B:AF) (mk:Nat→Value),v=mk S.size∧S'=⟨S.heap.set S.size (some B),S.size+1⟩∧qD P o f B mk:=by
 cases ho:o.op<;>rw[ho]at h
 case alloc e =>
  simp only[DY]at h
  split at h
  ·rename_i z GL
   cases h
   obtain⟨zv,hz,rfl,hf⟩:=p0 GL
   refine⟨_,fun b=>ptrTo b 0,rfl,rfl,fun ρ g w Ax=>⟨.cells zv.cells e,⟨w.heap.size,0,zv.cells.size,0⟩,.pointer (some ⟨w.heap.size,0,none⟩),?_,rfl,r9 (hf.refl ρ) e _,fun ρ' b hb=>VR.ptr hb⟩⟩
   simp only[execOp,ho,Instr.alloc,Sem.run_bind,Ka w hz,Result.andThen_ok]
   rfl
  cases h
 case box e x =>
  simp only[DY]at h
  cases h
  refine⟨_,fun b=>ptrTo b 0,rfl,rfl,fun ρ g w Ax=>⟨.cells (g x).cells e,⟨w.heap.size,0,(g x).cells.size,0⟩,.pointer (some ⟨w.heap.size,0,none⟩),?_,rfl,r9 (Ax x (by rw[ho];simp[Op.operands])) e _,fun ρ' b hb=>VR.ptr hb⟩⟩
  simp only[execOp,ho,Instr.box,Sem.run_bind]
  rfl
 case makeMap t r =>
  cases r with
  |some x=>simp[DY]at h
  |none =>
   simp only[DY]at h
   cases h
   refine⟨_,fun b=> .map (some b),rfl,rfl,fun ρ g w Ax=>⟨.map #[] 0,⟨w.heap.size,0,0,0⟩,.map (some w.heap.size),?_,rfl,⟨[],rfl,rfl,fun i e e' h=>by simp at h⟩,fun ρ' b hb=>VR.map hb⟩⟩
   simp[execOp,ho,Instr.makeMap]
 case buildSlice t len parts =>
  simp only[DY]at h
  split at h
  ·rename_i elem hu
   split at h
   ·rename_i ei FE
    split at h
    ·rename_i z hz
     split at h
     ·rename_i hle
      split at h
      ·rename_i c hc
       cases h
       refine⟨_,fun b=> .slice (some ⟨b,0,none⟩) len len,rfl,rfl,fun ρ g w Ax=>?_⟩
       have hp:=ye (ρ:=ρ) (f:=f) (g:=g) (parts:=parts) (by rw[ho]at Ax;simpa [Op.operands]using Ax)
       have A4:A5 P elem=some ei.size:=by simp[A5,FE]
       have Uh:z.cells.size=ei.size:=by have:=hle.2;rw[JM]at this;simpa using this
       have Ns:=Yq (ρ:=ρ) hz len (len*ei.size) (by rw[Uh])
       obtain⟨c',f1,f2⟩:=Wb (place':=fun i=>some (i*ei.size,ei.size)) (fun _=>rfl) _ _ _ _ _ hc Ns hp
       have iU:c.length=len*ei.size:=by
        have:=gA _ _ _ hc
        rw[this,YD,hle.2]
       have Hf:c'.size=len*ei.size:=by rw[←iU,f2.1];simp
       refine⟨.cells c' elem,⟨w.heap.size,0,c'.size,ei.size⟩,.slice (some ⟨w.heap.size,0,none⟩) len len,?_,rfl,⟨c',elem,(0,0),rfl,rfl,fun i x hx=>?_,fun _ j _ hj=>by simp at hj,fun _=>A4,(fun h=>nomatch h),fun _ _=>rfl⟩,fun ρ' b hb=>VR.slice hb (Nat.le_refl _) (Nat.le_refl _) (fun _=>by simp only;omega) (.inl rfl)⟩
       ·simp only[execOp,ho]
        unfold Instr.buildSlice
        simp only[Sem.run_bind,A3 w hu,Result.andThen_ok,FZ w A4]
        rw[if_neg (by omega)]
        by_cases h0:len*ei.size=0
        ·rw[if_pos h0]
         have e1:Array.map (fun x=>(#[]:Array Value)[x%(#[]:Array Value).size]!) (Array.range (len*ei.size))=Array.map (fun i=>z.cells[i%z.cells.size]!) (Array.range (len*ei.size)):=by rw[h0];simp
         simp only[Sem.run_bind,Sem.run_pure,Result.andThen_ok]
         rw[e1,f1]
         simp[newRow]
        rw[if_neg h0]
        simp only[Sem.run_bind,Ka w hz,Sem.run_pure,Result.andThen_ok]
        rw[f1]
        simp[newRow]
       obtain⟨x',p1,p2⟩:=f2.get hx
       exact⟨x',by rw[←Array.getElem?_toList];simpa using p1,p2⟩
      cases h
     cases h
    cases h
   cases h
  cases h
 all_goals simp[DY]at h
theorem AEk{S S':St}{b:Nat}{B:AF}{c:DD}(h:Kx S b=some c)(hB:S.get b=some B)(hk:c.ok P S'=true):S'.get b=some B:=by
 unfold Kx at h
 rw[hB]at h
 split at h
 ·rename_i cs e row he
  cases he
  cases h
  simp only[DD.ok]at hk
  split at hk
  ·rename_i c' e' zR hg
   simp only[Bool.and_eq_true]at hk
   rw[hg,Bc hk.1.1,eq_of_beq hk.1.2,R6 _ _ _ hk.2]
  cases hk
 ·rename_i he
  cases he
  cases h
  simp only[DD.ok]at hk
  split at hk
  ·rename_i hg;exact hg
  cases hk
 cases h
def NJ(acc:List Nat)(o:Oper):Nat:=o.after.toList.foldl (fun s e=>if Region.binds .any e then s |||2 ^ e.on |||((nth acc e.on).getD 0)else s) 0
theorem qn:∀(l:List Oper) (acc:List Nat),∃t,Db l acc=acc++t
 | [],acc=>⟨[],by simp[Db]⟩
 |o::l,acc=>by
  obtain⟨t,h⟩:=qn l (acc++[NJ acc o])
  exact⟨[NJ acc o]++t,by rw[←List.append_assoc,←h];rfl⟩
theorem qm:∀(l:List Oper) (acc:List Nat) (k:Nat) (o:Oper),l[k]?=some o →
  ∃Qb t,Qb.length=acc.length+k∧Db l acc=Qb++NJ Qb o::t
 | [],acc,k,o,h=>by simp at h
 |p::l,acc,0,o,h=>by
  simp only[List.getElem?_cons_zero,Option.some.injEq]at h
  subst h
  obtain⟨t,h⟩:=qn l (acc++[NJ acc p])
  exact⟨acc,t,rfl,by have:Db (p::l) acc=Db l (acc++[NJ acc p]):=rfl;rw[this,h];simp⟩
 |p::l,acc,k+1,o,h=>by
  simp only[List.getElem?_cons_succ]at h
  obtain⟨Qb,t,h1,h2⟩:=qm l (acc++[NJ acc p]) k o h
  exact⟨Qb,t,by rw[h1];simp;omega,by have:Db (p::l) acc=Db l (acc++[NJ acc p]):=rfl;rw[this,h2]⟩
theorem tU(acc:List Nat)(b:Nat):∀(l:List Edge) (s:Nat),(l.foldl (fun s e=>if Region.binds .any e then s |||2 ^ e.on |||((nth acc e.on).getD 0)else s) s).testBit b=true ↔
  s.testBit b=true∨∃e∈l,Region.binds .any e=true∧(b=e.on∨((nth acc e.on).getD 0).testBit b=true)
 | [],s=>by simp
 |e::l,s=>by
  simp only[List.foldl_cons]
  rw[tU acc b l]
  by_cases hb:Region.binds .any e=true
  ·simp only[hb,if_true,Nat.testBit_or,Nat.testBit_two_pow,Bool.or_eq_true,decide_eq_true_eq,List.mem_cons,exists_eq_or_imp,true_and]
   constructor
   ·rintro(((h|h)|h)|h)
    ·exact .inl h
    ·exact .inr (.inl (.inl h.symm))
    ·exact .inr (.inl (.inr h))
    exact .inr (.inr h)
   rintro(h|(h|h)|h)
   ·exact .inl (.inl (.inl h))
   ·exact .inl (.inl (.inr h.symm))
   ·exact .inl (.inr h)
   exact .inr h
  simp[hb]
def bits(AJ:List Nat)(i:Nat):Nat:=(nth AJ i).getD 0
theorem ABV{full:List Oper}{i:Nat}{o:Oper}:(o,i)∈full.zipIdx↔full[i]?=some o:=by
 rw[List.mem_zipIdx_iff_getElem?]
theorem fZ{full:List Oper}(hE:WM full.zipIdx=true){i:Nat}{o:Oper}(hi:full[i]?=some o):∀e∈o.after.toList,Region.binds .any e=true→e.on<i:=by
 intro e he hb
 unfold WM at hE
 rw[List.all_eq_true]at hE
 have:=hE (o,i) (ABV.2 hi)
 simp only[Bool.and_eq_true,List.all_eq_true]at this
 have:=this.1 e he
 simpa [hb]using this
theorem ADT{full:List Oper}(hE:WM full.zipIdx=true){i:Nat}{o:Oper}(hi:full[i]?=some o)(b:Nat) :
  (bits (Db full []) i).testBit b=true↔∃e∈o.after.toList,Region.binds .any e=true∧(b=e.on∨(bits (Db full []) e.on).testBit b=true):=by
 obtain⟨Qb,t,h1,h2⟩:=qm full [] i o hi
 simp only[List.length_nil,Nat.zero_add]at h1
 have e1:bits (Db full []) i=NJ Qb o:=by
  unfold bits
  rw[CE,h2,List.getElem?_append_right (by omega)]
  simp[h1]
 rw[e1]
 unfold NJ
 rw[tU]
 simp only[Nat.zero_testBit,Bool.false_eq_true,false_or]
 constructor
 ·rintro⟨e,he,hb,hx⟩
  refine⟨e,he,hb,?_⟩
  have AN:=fZ hE hi e he hb
  unfold bits
  rw[CE,h2,List.getElem?_append_left (by omega),←CE]
  exact hx
 rintro⟨e,he,hb,hx⟩
 refine⟨e,he,hb,?_⟩
 have AN:=fZ hE hi e he hb
 unfold bits at hx
 rw[CE,h2,List.getElem?_append_left (by omega),←CE]at hx
 exact hx
theorem ADS{x y:Nat}(h:ZB x y=true)(b:Nat)(hb:x.testBit b=true):y.testBit b=true:=by
 unfold ZB at h
 have e:x &&&y=x:=Bc h
 rw[←e,Nat.testBit_and,Bool.and_eq_true]at hb
 exact hb.2
theorem U9{full:List Oper}{AJ:List Nat}{o:Oper}{i:Nat}{r:List (Oper×Nat)}{done:Nat}(h:OB full AJ ((o,i)::r) done=true) :
  done.testBit i=false∧(∀b,(bits AJ i).testBit b=true→done.testBit b=true)∧(kindOf o.op= .Fk→∀x∈r,(bits AJ x.2).testBit i=true)∧OB full AJ r (done |||2 ^ i)=true:=by
 simp only[OB,Bool.and_eq_true,Bool.not_eq_true',Bool.or_eq_true,List.all_eq_true]at h
 refine⟨h.1.1.1.2,ADS h.1.1.2,fun hk x hx=>?_,h.2⟩
 rcases h.1.2 with h1|h1
 ·simp[hk]at h1
 exact h1 x hx
theorem yk{full:List Oper}{AJ:List Nat}:∀(l:List (Oper×Nat)) (done:Nat),OB full AJ l done=true→∀i,i<full.length→done.testBit i=true∨∃o,(o,i)∈l
 | [],done,h,i,hi=>by
  simp only[OB]at h
  rw[Bc h,Nat.testBit_two_pow_sub_one]
  simp[hi]
 |(o,j)::r,done,h,i,hi=>by
  obtain⟨_,_,_,h4⟩:=U9 h
  rcases yk r _ h4 i hi with h5|⟨p,h5⟩
  ·rw[Nat.testBit_or,Nat.testBit_two_pow,Bool.or_eq_true,decide_eq_true_eq]at h5
   rcases h5 with h5|h5
   ·exact .inl h5
   subst h5;exact .inr ⟨o,by simp⟩
  exact .inr ⟨p,by simp[h5]⟩
theorem mS{full:List Oper}{AJ:List Nat}:∀(l:List (Oper×Nat)),Jo full AJ l=true→∀(k k':Nat) (x y:Oper×Nat),k<k'→l[k]?=some x→l[k']?=some y→cE full AJ x.2 x.1 y.2 y.1=true
 | [],_,k,k',x,y,_,h,_=>by simp at h
 |(o,i)::l,h,k,k',x,y,hk,hx,hy=>by
  simp only[Jo,Bool.and_eq_true,List.all_eq_true]at h
  cases k' with
  |zero=>omega
  |succ k' =>
   simp only[List.getElem?_cons_succ]at hy
   cases k with
   |zero =>
    simp only[List.getElem?_cons_zero,Option.some.injEq]at hx
    subst hx
    exact h.1 y (List.mem_of_getElem? hy)
   |succ k =>
    simp only[List.getElem?_cons_succ]at hx
    exact mS l h.2 k k' x y (by omega) hx hy
theorem U8{full:List Oper}{AJ:List Nat}(hP:Jo full AJ full.zipIdx=true){i j:Nat}{o p:Oper}(hi:full[i]?=some o)(hj:full[j]?=some p)(Ac:i≠j) :
  (∀d,o.dst=some d→d∈KW full p→(bits AJ j).testBit i=true∨(bits AJ i).testBit j=true)∧(∀d,o.dst=some d→p.dst≠some d):=by
 have vY:full.zipIdx[i]?=some (o,i):=by simp[hi]
 have vZ:full.zipIdx[j]?=some (p,j):=by simp[hj]
 rcases Nat.lt_or_gt_of_ne Ac with AN|AN
 ·have h:=mS _ hP i j _ _ AN vY vZ
  simp only[cE,Bool.and_eq_true,Bool.or_eq_true]at h
  refine⟨fun d hd hm=>?_,fun d hd he=>?_⟩
  ·rcases h.1 with h1|h1
   ·exact .inl h1
   have:=h1.1.2
   rw[hd]at this
   simp[hm]at this
  have:=h.2
  rw[hd,he]at this
  simp at this
 have h:=mS _ hP j i _ _ AN vZ vY
 simp only[cE,Bool.and_eq_true,Bool.or_eq_true]at h
 refine⟨fun d hd hm=>?_,fun d hd he=>?_⟩
 ·rcases h.1 with h1|h1
  ·exact .inr h1
  have:=h1.2
  rw[hd]at this
  simp[hm]at this
 have:=h.2
 rw[hd,he]at this
 simp at this
theorem cK{AJ:List Nat}:∀(l:List (Oper×Nat)) (done:Nat),∀x∈(Rv AJ l done).1,x∈l
 | [],done,x,h=>by simp[Rv]at h
 |(o,i)::l,done,x,h=>by
  simp only[Rv]at h
  split at h
  ·exact List.mem_cons_of_mem _ (cK l done x h)
  rcases List.mem_cons.1 h with h1|h1
  ·subst h1;simp
  exact List.mem_cons_of_mem _ (cK l _ x h1)
theorem yj{AJ:List Nat}{l:List (Oper×Nat)}:∀(r:List (Oper×Nat)) (done:Nat),(∀x∈r,x∈l)→∀x∈cJ AJ l r done,x∈l
 | [],done,_,x,h=>cK l done x h
 |(o,i)::r,done,hr,x,h=>by
  simp only[cJ]at h
  rcases List.mem_append.1 h with h1|h1
  ·exact cK l done x h1
  rcases List.mem_cons.1 h1 with h2|h2
  ·subst h2;exact hr _ (by simp)
  exact yj r _ (fun y hy=>hr y (by simp[hy])) x h2
theorem AJV{full:List Oper}:∀x∈cM full,full[x.2]?=some x.1:=by
 intro x hx
 have:x∈full.zipIdx:=yj _ _ (fun y hy=>(List.mem_filter.1 hy).1) x hx
 exact ABV.1 this
end Go.Cm
namespace Go.Cm
open Go
variable{P:Program}{w0:Bi}{K:BX}
theorem Pd{a a':Ca}{dst:Option Tmp}{v:Value}(hn:a.n≤256)(h:a.put dst v=some a')(t:Tmp):a'.get t=if dst=some t then v else a.get t:=by
 unfold Ca.put at h
 cases dst with
 |none=>simp only[Option.some.injEq]at h;subst h;simp
 |some d =>
  simp only at h
  cases hb:Nat.blt d a.n with
  |false=>rw[hb]at h;cases h
  |true =>
   rw[hb]at h
   simp only[cond_true,Option.some.injEq]at h
   subst h
   have hd:=Gk hb
   simp only[get_eq,Ow,Option.some.injEq]
   rw[PT.Zy _ _ _ (by omega)]
   by_cases e:t=d
   ·subst e;simp
   rw[if_neg e,if_neg (fun h=>e h.symm)]
theorem MV{a a':Ca}{dst:Option Tmp}{v:Value}(h:a.put dst v=some a'):a'.n=a.n∧a'.defers=a.defers:=by
 unfold Ca.put at h
 cases dst with
 |none=>simp only[Option.some.injEq]at h;subst h;exact⟨rfl,rfl⟩
 |some d =>
  simp only at h
  cases hb:Nat.blt d a.n with
  |false=>rw[hb]at h;cases h
  |true =>
   rw[hb]at h
   simp only[cond_true,Option.some.injEq]at h
   subst h
   exact⟨rfl,rfl⟩
theorem y8{a a' b:Ca}{dst:Option Tmp}{v:Value}(h:a.put dst v=some a')(hn:b.n=a.n)(v':Value):∃b',b.put dst v'=some b':=by
 unfold Ca.put at h ⊢
 cases dst with
 |none=>exact⟨_,rfl⟩
 |some d =>
  simp only at h ⊢
  cases hb:Nat.blt d a.n with
  |false=>rw[hb]at h;cases h
  |true=>rw[hn,hb];exact⟨_,rfl⟩
theorem AIg{full:List Oper}{o oj:Oper}{j:Nat}{x:Bool}{d:Tmp}(h:o.guard=some (j,x))(h1:nth full j=some oj)(h2:oj.dst=some d):d∈KW full o:=by
 unfold KW
 simp only[h,h1,h2,List.append_assoc]
 exact List.mem_append_left _ (by simp)
theorem AIj{full:List Oper}{o:Oper}{t:Tmp}(h: .tmp t∈o.op.operands):t∈KW full o:=by
 unfold KW
 exact List.mem_append_right _ (List.mem_filterMap.2 ⟨.tmp t,by simpa using h,rfl⟩)
theorem ABM{full:List Oper}{o:Oper}{a b:Ca}(h:∀t∈KW full o,a.get t=b.get t):Du full a o=Du full b o:=by
 unfold Du
 cases hg:o.guard with
 |none=>rfl
 |some q =>
  obtain⟨j,x⟩:=q
  simp only
  cases hj:nth full j with
  |none=>rfl
  |some oj =>
   simp only
   cases hd:oj.dst with
   |none=>rfl
   |some d =>
    simp only
    have:=h d (AIg hg hj hd)
    unfold Ca.get at this
    cases ha:a.t.get d with
    |none =>
     cases hb:b.t.get d with
     |none=>rfl
     |some v=>rw[ha,hb]at this;simp only at this;rw[←this];rfl
    |some u =>
     cases hb:b.t.get d with
     |none=>rw[ha,hb]at this;simp only at this;rw[this];rfl
     |some v=>rw[ha,hb]at this;simp only at this;rw[this]
theorem sx{full:List Oper}{o:Oper}{a b:Ca}(h:∀t∈KW full o,a.get t=b.get t):∀x,x∈o.op.operands→a.ev x=b.ev x:=by
 intro x hx
 cases x with
 |tmp t=>exact h t (AIj hx)
 |const v=>rfl
 |global g=>rfl
 |func f=>rfl
structure Pn where
 o:Oper
 i:Nat
 a:Ca
 v:Value
 b:Option Nat
inductive Kl(P:Program)(full:List Oper)(S:St)(Ah:List (Nat×DD))(no:Nat→Bool)(q:Pn):Prop
 |skip (h:Du full q.a q.o=false) (hv:q.v=undef) (hb:q.b=none)
 |read (h:Du full q.a q.o=true) (hk:kindOf q.o.op= .read) (hr:CF P q.a.ev q.o.op S=some q.v) (hc:looks q.o.op=true→(q.i,DD.read q.a q.o.op q.v)∈Ah) (hb:q.b=none)
 |fresh (h:Du full q.a q.o=true) (hk:kindOf q.o.op= .fresh) {B:AF} {mk:Nat→Value} {b:Nat} {c:DD} (hb:q.b=some b) (hv:q.v=mk b) (hB:S.get b=some B) (hc:(q.i,c)∈Ah)
  (K6:∀S',c.ok P S'=true→S'.get b=some B) (Ek:no b=true) (Dq:qD P q.o q.a.ev B mk)
theorem Kl.grow{full:List Oper}{S S':St}{Ah HZ:List (Nat×DD)}{no no':Nat→Bool}{q:Pn}(h:Kl P full S Ah no q)(hl:Le S S')(hc:∀x∈Ah,x∈HZ)(hn:∀b,no b=true→no' b=true):Kl P full S' HZ no' q:=by
 cases h with
 |skip h hv hb=>exact .skip h hv hb
 |read h hk hr ED hb=>exact .read h hk (AJ1 hl hr) (fun h=>hc _ (ED h)) hb
 |fresh h hk hb hv hB UN K6 Ek Dq=>exact .fresh h hk hb hv (hl _ _ hB) (hc _ UN) K6 (hn _ Ek) Dq
theorem Kl.ASJ{full:List Oper}{S S':St}{Ah HZ:List (Nat×DD)}{no:Nat→Bool}{q:Pn}(h:Kl P full S Ah no q)(aM:∀c,(q.i,c)∈Ah→(q.i,c)∈HZ)(BI:∀x∈HZ,x.2.ok P S'=true):Kl P full S' HZ no q:=by
 cases h with
 |skip h hv hb=>exact .skip h hv hb
 |read h hk hr ED hb =>
  refine .read h hk ?_ (fun h=>aM _ (ED h)) hb
  cases UQ:looks q.o.op with
  |false=>exact AJ0 UQ hr
  |true =>
   have:=BI _ (aM _ (ED UQ))
   simp only[DD.ok]at this
   split at this
   ·rename_i x hx
    rw[hx,Pj _ _ _ this]
   cases this
 |fresh h hk hb hv hB UN K6 Ek Dq=>exact .fresh h hk hb hv (K6 _ (BI _ (aM _ UN))) (aM _ UN) K6 Ek Dq
theorem Kl.no{full:List Oper}{S:St}{Ah:List (Nat×DD)}{no no':Nat→Bool}{q:Pn}(h:Kl P full S Ah no q)(hn:∀b,q.b=some b→no b=true→no' b=true):Kl P full S Ah no' q:=by
 cases h with
 |skip h hv hb=>exact .skip h hv hb
 |read h hk hr ED hb=>exact .read h hk hr ED hb
 |fresh h hk hb hv hB UN K6 Ek Dq=>exact .fresh h hk hb hv hB UN K6 (hn _ hb Ek) Dq
abbrev AJ(full:List Oper)(i:Nat):Nat:=bits (Db full []) i
structure Inv(P:Program)(ih:Ap)(full:List Oper)(e:Exit)(a1:Ca)(S1:St)(w0:Bi)(ρ0:AI)(Ls:Nat→Prop)(ar:Act)(w:World)
  (Bl:List Pn)(rest:List (Oper×Nat))(Ah:List (Nat×DD))(a:Ca)(S:St)(A:Ca)(no:Nat→Bool)(ρ:AI)(done:Nat):Prop where
 run:DT P ih full (Db full []) rest Ah a S=some (e,a1,S1)
 Jq:OB full (Db full []) rest done=true
 mem:∀x∈rest,full[x.2]?=some x.1
 L5:∀x,done.testBit x=true↔Ls x∨∃q∈Bl,q.i=x
 cls:∀j,Ls j→∀b,(AJ full j).testBit b=true→Ls b
 Jr:∀q∈Bl,full[q.i]?=some q.o
 Pb:∀q∈Bl,¬Ls q.i
 VB:∀q∈Bl,∀q'∈Bl,q.i=q'.i→q=q'
 Rs:∀q∈Bl,∀b,(AJ full q.i).testBit b=true→done.testBit b=true
 cN:∀q∈Bl,Kl P full S Ah no q
 cP:∀q∈Bl,∃a',q.a.put q.o.dst q.v=some a'
 pn:∀q∈Bl,q.a.n=a.n
 An:A.n=a.n∧A.defers=a.defers
 Tu:∀t,(∀q∈Bl,q.o.dst≠some t)→A.get t=a.get t
 cB:∀q∈Bl,∀t∈KW full q.o,(∀j∈Bl,(AJ full q.i).testBit j.i=true→j.o.dst≠some t)→A.get t=q.a.get t
 X0:∀q∈Bl,∀d,q.o.dst=some d→a.get d=q.v
 cO:∀q∈Bl,∀j∈Bl,(AJ full q.i).testBit j.i=true→∀d,j.o.dst=some d→q.a.get d=j.v
 Qg:∀x,no x=true↔w0.no x=true∨∃q∈Bl,q.b=some x
 bw:∀q∈Bl,∀x,q.b=some x→w0.no x=false
 WE:∀q∈Bl,∀q'∈Bl,∀x,q.b=some x→q'.b=some x→q.i=q'.i
 ext:Ext ρ0 ρ
 LX:AW P ⟨w0.toWorld,no⟩ ρ S w
 act:Bh ρ A ar
section
variable{ih:Ap}{full:List Oper}{e:Exit}{a1:Ca}{S1:St}{ρ0:AI}{Ls:Nat→Prop}{ar:Act}{w:World}
 {Bl:List Pn}{rest:List (Oper×Nat)}{Ah:List (Nat×DD)}{a:Ca}{S:St}{A:Ca}{no:Nat→Bool}{ρ:AI}{done:Nat}
theorem ZA{x i j:Nat}:(x |||2 ^ i).testBit j=true↔x.testBit j=true∨j=i:=by
 rw[Nat.testBit_or,Nat.testBit_two_pow,Bool.or_eq_true,decide_eq_true_eq]
 constructor<;>(rintro(h|h)<;>first|exact .inl h|exact .inr h.symm)
theorem Inv.push(hP:Jo full (Db full []) full.zipIdx=true){o:Oper}{i:Nat}{r:List (Oper×Nat)}(h:Inv P ih full e a1 S1 w0 ρ0 Ls ar w Bl ((o,i)::r) Ah a S A no ρ done)
  {v:Value}{b:Option Nat}{a':Ca}{S':St}{HZ:List (Nat×DD)}{no':Nat→Bool}(Bp:a.put o.dst v=some a')(Dq:DT P ih full (Db full []) r HZ a' S'=some (e,a1,S1))
  (hl:Le S S')(hc:∀x∈Ah,x∈HZ)(Ek:∀x,no' x=true↔no x=true∨b=some x)(hb:∀x,b=some x→no x=false)(LF:AW P ⟨w0.toWorld,no'⟩ ρ S' w)
  (hq:Kl P full S' HZ no' ⟨o,i,a,v,b⟩):Inv P ih full e a1 S1 w0 ρ0 Ls ar w (Bl++[⟨o,i,a,v,b⟩]) r HZ a' S' A no' ρ (done |||2 ^ i):=by
 obtain⟨hd,Ws,_,Dp⟩:=U9 h.Jq
 have hi:full[i]?=some o:=h.mem (o,i) (by simp)
 have hn:a.n≤256:=by rw[←h.An.1];exact h.act.le
 have Gf:¬(done.testBit i=true):=by rw[hd];simp
 have HK:∀q∈Bl,q.i≠i:=fun q hq e=>Gf ((h.L5 i).2 (.inr ⟨q,hq,e⟩))
 have CB:∀q,q∈Bl++[⟨o,i,a,v,b⟩]↔q∈Bl∨q=⟨o,i,a,v,b⟩:=fun q=>by simp
 refine⟨Dq,Dp,fun x hx=>h.mem x (by simp[hx]),fun x=>?_,h.cls,?_,?_,?_,?_,?_,?_,?_,?_,?_,?_,?_,?_,?_,?_,?_,h.ext,LF,h.act⟩
 ·rw[ZA,h.L5]
  constructor
  ·rintro((h1|⟨q,hq,h1⟩)|h1)
   ·exact .inl h1
   ·exact .inr ⟨q,(CB q).2 (.inl hq),h1⟩
   exact .inr ⟨_,(CB _).2 (.inr rfl),h1.symm⟩
  rintro(h1|⟨q,hq,h1⟩)
  ·exact .inl (.inl h1)
  rcases(CB q).1 hq with hq|rfl
  ·exact .inl (.inr ⟨q,hq,h1⟩)
  exact .inr h1.symm
 ·intro q hq
  rcases(CB q).1 hq with hq|rfl
  ·exact h.Jr q hq
  exact hi
 ·intro q hq
  rcases(CB q).1 hq with hq|rfl
  ·exact h.Pb q hq
  exact fun hl=>Gf ((h.L5 i).2 (.inl hl))
 ·intro q hq q' HL he
  rcases(CB q).1 hq with hq|rfl
  ·rcases(CB q').1 HL with HL|rfl
   ·exact h.VB q hq q' HL he
   exact absurd he (HK q hq)
  rcases(CB q').1 HL with HL|rfl
  ·exact absurd he.symm (HK q' HL)
  rfl
 ·intro q hq x hx
  refine ZA.2 (.inl ?_)
  rcases(CB q).1 hq with hq|rfl
  ·exact h.Rs q hq x hx
  exact Ws x hx
 ·intro q HL
  rcases(CB q).1 HL with HL|rfl
  ·exact(h.cN q HL).grow hl hc (fun x hx=>(Ek x).2 (.inl hx))
  exact hq
 ·intro q hq
  rcases(CB q).1 hq with hq|rfl
  ·exact h.cP q hq
  exact⟨_,Bp⟩
 ·intro q hq
  rw[(MV Bp).1]
  rcases(CB q).1 hq with hq|rfl
  ·exact h.pn q hq
  rfl
 ·rw[(MV Bp).1,(MV Bp).2];exact h.An
 ·intro t ht
  rw[Pd hn Bp,if_neg (ht ⟨o,i,a,v,b⟩ ((CB _).2 (.inr rfl)))]
  exact h.Tu t fun q hq=>ht q ((CB q).2 (.inl hq))
 ·intro q hq t ht KM
  rcases(CB q).1 hq with hq|rfl
  ·exact h.cB q hq t ht fun j hj=>KM j ((CB j).2 (.inl hj))
  refine h.Tu t fun j hj he=>?_
  rcases(U8 hP (h.Jr j hj) hi (HK j hj)).1 t he ht with h1|h1
  ·exact KM j ((CB j).2 (.inl hj)) h1 he
  exact Gf (h.Rs j hj i h1)
 ·intro q hq d UT
  rw[Pd hn Bp]
  rcases(CB q).1 hq with hq|rfl
  ·rw[if_neg ((U8 hP (h.Jr q hq) hi (HK q hq)).2 d UT)]
   exact h.X0 q hq d UT
  rw[if_pos UT]
 ·intro q hq j hj Wt d uf
  rcases(CB q).1 hq with hq|rfl
  ·rcases(CB j).1 hj with hj|rfl
   ·exact h.cO q hq j hj Wt d uf
   exact absurd (h.Rs q hq i Wt) Gf
  rcases(CB j).1 hj with hj|rfl
  ·exact h.X0 j hj d uf
  exact absurd (Ws i Wt) Gf
 ·intro x
  rw[Ek,h.Qg]
  constructor
  ·rintro((h1|⟨q,hq,h1⟩)|h1)
   ·exact .inl h1
   ·exact .inr ⟨q,(CB q).2 (.inl hq),h1⟩
   exact .inr ⟨_,(CB _).2 (.inr rfl),h1⟩
  rintro(h1|⟨q,hq,h1⟩)
  ·exact .inl (.inl h1)
  rcases(CB q).1 hq with hq|rfl
  ·exact .inl (.inr ⟨q,hq,h1⟩)
  exact .inr h1
 ·intro q hq x hx
  rcases(CB q).1 hq with hq|rfl
  ·exact h.bw q hq x hx
  have h1:=hb x hx
  cases h2:w0.no x with
  |false=>rfl
  |true=>rw[(h.Qg x).2 (.inl h2)]at h1;cases h1
 intro q hq q' HL x hx CS
 rcases(CB q).1 hq with hq|rfl
 ·rcases(CB q').1 HL with HL|rfl
  ·exact h.WE q hq q' HL x hx CS
  have:=hb x CS
  rw[(h.Qg x).2 (.inr ⟨q,hq,hx⟩)]at this
  cases this
 rcases(CB q').1 HL with HL|rfl
 ·have:=hb x hx
  rw[(h.Qg x).2 (.inr ⟨q',HL,CS⟩)]at this
  cases this
 rfl
theorem AH5{S:St}(B:AF)(h:S.get S.size=none):Le S ⟨S.heap.set S.size (some B),S.size+1⟩:=by
 intro b C hC
 simp only[St.get,Cr.Hd]at hC h ⊢
 rw[if_neg (fun e=>by rw[e,h]at hC;cases hC)]
 exact hC
theorem Inv.V4(hP:Jo full (Db full []) full.zipIdx=true):∀(rest:List (Oper×Nat)) (Bl:List Pn) (Ah:List (Nat×DD)) (a:Ca) (S:St) (no:Nat→Bool) (done:Nat),
  Inv P ih full e a1 S1 w0 ρ0 Ls ar w Bl rest Ah a S A no ρ done →
  ∃yf YE HZ a' S' no' Zi,Inv P ih full e a1 S1 w0 ρ0 Ls ar w yf YE HZ a' S' A no' ρ Zi∧yf.length+YE.length=Bl.length+rest.length ∧
   (∀o i r,YE=(o,i)::r→Du full a' o=true∧kindOf o.op= .Fk)
 | [],Bl,Ah,a,S,no,done,h=>⟨Bl,[],Ah,a,S,no,done,h,rfl,fun o i r he=>by cases he⟩
 |(o,i)::r,Bl,Ah,a,S,no,done,h=>by
  have hr:=h.run
  unfold DT at hr
  cases hw:Du full a o with
  |false =>
   rw[hw]at hr
   simp only[cond_false]at hr
   split at hr
   ·rename_i a' Bp
    have h2:=h.push hP (v:=undef) (b:=none) (no':=no) Bp hr (fun _ _ h=>h) (fun _ h=>h) (fun x=>by simp) (fun x hx=>by cases hx) h.LX (.skip hw rfl rfl)
    obtain⟨p',r',c',Qa,S',no',d',h3,h4,h5⟩:=Inv.V4 hP r _ _ _ _ _ _ h2
    exact⟨p',r',c',Qa,S',no',d',h3,by rw[h4];simp;omega,h5⟩
   cases hr
  |true =>
   rw[hw]at hr
   simp only[cond_true]at hr
   split at hr
   ·rename_i hk
    split at hr
    ·rename_i v hv
     split at hr
     ·rename_i a' Bp
      have h2:=h.push hP (v:=v) (b:=none) (no':=no) Bp hr (fun _ _ h=>h) (fun x hx=>by cases looks o.op<;>simp[hx]) (fun x=>by simp) (fun x hx=>by cases hx) h.LX
       (.read hw hk hv (fun UQ=>by simp[UQ]) rfl)
      obtain⟨p',r',c',Qa,S',no',d',h3,h4,h5⟩:=Inv.V4 hP r _ _ _ _ _ _ h2
      exact⟨p',r',c',Qa,S',no',d',h3,by rw[h4];simp;omega,h5⟩
     cases hr
    cases hr
   ·rename_i hk
    split at hr
    ·rename_i v S' hv
     split at hr
     ·rename_i a' c Bp Cz Jb
      obtain⟨B,mk,rfl,rfl,Dq⟩:=AIy hv
      have hB:(⟨S.heap.set S.size (some B),S.size+1⟩:St).get S.size=some B:=by
       simp only[St.get,Cr.Hd]
       rw[if_pos trivial]
      have AGl:no S.size=false:=by
       cases hx:no S.size with
       |false=>rfl
       |true=>exact absurd (h.LX.no _ hx).2 (Nat.lt_irrefl _)
      have RI:∀x,(no x||x==S.size)=true↔no x=true∨some S.size=some x:=by
       intro x
       rw[Bool.or_eq_true,beq_iff_eq,Option.some.injEq]
       constructor<;>(rintro(h|h)<;>first|exact .inl h|exact .inr h.symm)
      have h2:=h.push hP (v:=mk S.size) (b:=some S.size) (no':=fun x=>no x||x==S.size) Bp hr (AH5 B Jb) (fun x hx=>by simp[hx]) RI
       (fun x hx=>by cases hx;exact AGl)
       (h.LX.ASN B (fun x hx=>by rcases(RI x).1 hx with h1|h1<;>first|exact .inl h1|exact .inr (Option.some.inj h1).symm))
       (.fresh hw hk rfl rfl hB (List.mem_cons_self ..) (fun GA BI=>AEk Cz hB BI) ((RI _).2 (.inr rfl)) Dq)
      obtain⟨p',r',c',Qa,S',no',d',h3,h4,h5⟩:=Inv.V4 hP r _ _ _ _ _ _ h2
      exact⟨p',r',c',Qa,S',no',d',h3,by rw[h4];simp;omega,h5⟩
     cases hr
    cases hr
   rename_i hk
   exact⟨Bl,(o,i)::r,Ah,a,S,no,done,h,rfl,fun o' i' r' he=>by cases he;exact⟨hw,hk⟩⟩
theorem Inv.drop(hP:Jo full (Db full []) full.zipIdx=true)(h:Inv P ih full e a1 S1 w0 ρ0 Ls ar w Bl rest Ah a S A no ρ done){q:Pn}(hq:q∈Bl)(Gh:∀b,(AJ full q.i).testBit b=true→Ls b)
  {A':Ca}{C7:Act}{w':World}{ρ':AI}{no':Nat→Bool}(Bp:A.put q.o.dst q.v=some A')(Ek:∀x,no' x=true↔no x=true∧q.b≠some x)(hx:Ext ρ ρ')
  (hs:AW P ⟨w0.toWorld,no'⟩ ρ' S w')(Nf:Bh ρ' A' C7) :
  Inv P ih full e a1 S1 w0 ρ0 (fun x=>Ls x∨x=q.i) C7 w' (Bl.filter fun x=>!(x.i==q.i)) rest Ah a S A' no' ρ' done:=by
 have hn:A.n≤256:=h.act.le
 have CB:∀x,x∈(Bl.filter fun x=>!(x.i==q.i))↔x∈Bl∧x.i≠q.i:=fun x=>by simp[List.mem_filter]
 have O':=h.Jr q hq
 refine⟨h.run,h.Jq,h.mem,fun x=>?_,?_,?_,?_,?_,?_,?_,?_,?_,?_,?_,?_,?_,?_,?_,?_,?_,h.ext.trans hx,hs,Nf⟩
 ·rw[h.L5]
  constructor
  ·rintro(h1|⟨p,hp,h1⟩)
   ·exact .inl (.inl h1)
   by_cases he:p.i=q.i
   ·exact .inl (.inr (h1▸he))
   exact .inr ⟨p,(CB p).2 ⟨hp,he⟩,h1⟩
  rintro((h1|h1)|⟨p,hp,h1⟩)
  ·exact .inl h1
  ·exact .inr ⟨q,hq,h1.symm⟩
  exact .inr ⟨p,((CB p).1 hp).1,h1⟩
 ·rintro j (hj|hj) b hb
  ·exact .inl (h.cls j hj b hb)
  subst hj;exact .inl (Gh b hb)
 ·intro p hp;exact h.Jr p ((CB p).1 hp).1
 ·rintro p hp (h1|h1)
  ·exact h.Pb p ((CB p).1 hp).1 h1
  exact((CB p).1 hp).2 h1
 ·intro p hp p' RJ;exact h.VB p ((CB p).1 hp).1 p' ((CB p').1 RJ).1
 ·intro p hp;exact h.Rs p ((CB p).1 hp).1
 ·intro p hp
  refine(h.cN p ((CB p).1 hp).1).no fun b hb RH=>(Ek b).2 ⟨RH,fun he=>?_⟩
  exact((CB p).1 hp).2 (h.WE p ((CB p).1 hp).1 q hq b hb he)
 ·intro p hp;exact h.cP p ((CB p).1 hp).1
 ·intro p hp;exact h.pn p ((CB p).1 hp).1
 ·rw[(MV Bp).1,(MV Bp).2];exact h.An
 ·intro t ht
  rw[Pd hn Bp]
  by_cases he:q.o.dst=some t
  ·rw[if_pos he];exact(h.X0 q hq t he).symm
  rw[if_neg he]
  refine h.Tu t fun p hp vC=>?_
  by_cases HK:p.i=q.i
  ·have:=h.VB p hp q hq HK
   subst this
   exact he vC
  exact ht p ((CB p).2 ⟨hp,HK⟩) vC
 ·intro p hp t ht KM
  have LD:=(CB p).1 hp
  rw[Pd hn Bp]
  by_cases he:q.o.dst=some t
  ·rw[if_pos he]
   rcases(U8 hP O' (h.Jr p LD.1) (fun e=>LD.2 e.symm)).1 t he ht with h1|h1
   ·exact(h.cO p LD.1 q hq h1 t he).symm
   exact absurd (Gh _ h1) (h.Pb p LD.1)
  rw[if_neg he]
  refine h.cB p LD.1 t ht fun j hj Wt uh=>?_
  by_cases im:j.i=q.i
  ·have:=h.VB j hj q hq im
   subst this
   exact he uh
  exact KM j ((CB j).2 ⟨hj,im⟩) Wt uh
 ·intro p hp;exact h.X0 p ((CB p).1 hp).1
 ·intro p hp j hj;exact h.cO p ((CB p).1 hp).1 j ((CB j).1 hj).1
 ·intro x
  rw[Ek,h.Qg]
  constructor
  ·rintro⟨h1|⟨p,hp,h1⟩,h2⟩
   ·exact .inl h1
   refine .inr ⟨p,(CB p).2 ⟨hp,fun he=>?_⟩,h1⟩
   have:=h.VB p hp q hq he
   subst this
   exact h2 h1
  rintro(h1|⟨p,hp,h1⟩)
  ·refine⟨.inl h1,fun he=>?_⟩
   have:=h.bw q hq x he
   rw[h1]at this;cases this
  have LD:=(CB p).1 hp
  exact⟨.inr ⟨p,LD.1,h1⟩,fun he=>LD.2 (h.WE p LD.1 q hq x h1 he)⟩
 ·intro p hp;exact h.bw p ((CB p).1 hp).1
 intro p hp p' RJ;exact h.WE p ((CB p).1 hp).1 p' ((CB p').1 RJ).1
theorem Inv.head(hP:Jo full (Db full []) full.zipIdx=true){o:Oper}{i:Nat}{r:List (Oper×Nat)}(h:Inv P ih full e a1 S1 w0 ρ0 Ls ar w Bl ((o,i)::r) Ah a S A no ρ done)
  (Gh:∀b,(AJ full i).testBit b=true→Ls b){v:Value}{a' A':Ca}{S':St}(Bp:a.put o.dst v=some a')(Iw:A.put o.dst v=some A')
  (Dq:DT P ih full (Db full []) r (Ah.filter fun x=>!(AJ full i).testBit x.1) a' S'=some (e,a1,S1))(BI:∀x∈(Ah.filter fun x=>!(AJ full i).testBit x.1),x.2.ok P S'=true)
  {C7:Act}{w':World}{ρ':AI}(hx:Ext ρ ρ')(hs:AW P ⟨w0.toWorld,no⟩ ρ' S' w')(Nf:Bh ρ' A' C7) :
  Inv P ih full e a1 S1 w0 ρ0 (fun x=>Ls x∨x=i) C7 w' Bl r (Ah.filter fun x=>!(AJ full i).testBit x.1) a' S' A' no ρ' (done |||2 ^ i):=by
 obtain⟨hd,Ws,_,Dp⟩:=U9 h.Jq
 have hi:full[i]?=some o:=h.mem (o,i) (by simp)
 have hn:a.n≤256:=by rw[←h.An.1];exact h.act.le
 have aR:A.n≤256:=h.act.le
 have Gf:¬(done.testBit i=true):=by rw[hd];simp
 have HK:∀q∈Bl,q.i≠i:=fun q hq e=>Gf ((h.L5 i).2 (.inr ⟨q,hq,e⟩))
 have vA:∀q∈Bl,¬((AJ full i).testBit q.i=true):=fun q hq hb=>h.Pb q hq (Gh _ hb)
 refine⟨Dq,Dp,fun x hx=>h.mem x (by simp[hx]),fun x=>?_,?_,h.Jr,?_,h.VB,?_,?_,h.cP,?_,?_,?_,?_,?_,h.cO,h.Qg,h.bw,h.WE,h.ext.trans hx,hs,Nf⟩
 ·rw[ZA,h.L5]
  constructor
  ·rintro((h1|h1)|h1)
   ·exact .inl (.inl h1)
   ·exact .inr h1
   exact .inl (.inr h1)
  rintro((h1|h1)|h1)
  ·exact .inl (.inl h1)
  ·exact .inr h1
  exact .inl (.inr h1)
 ·rintro j (hj|hj) b hb
  ·exact .inl (h.cls j hj b hb)
  subst hj;exact .inl (Gh b hb)
 ·rintro q hq (h1|h1)
  ·exact h.Pb q hq h1
  exact HK q hq h1
 ·intro q hq b hb;exact ZA.2 (.inl (h.Rs q hq b hb))
 ·intro q hq
  refine(h.cN q hq).ASJ (fun c hc=>List.mem_filter.2 ⟨hc,?_⟩) BI
  cases hb:(AJ full i).testBit q.i with
  |false=>rfl
  |true=>exact absurd hb (vA q hq)
 ·intro q hq;rw[(MV Bp).1];exact h.pn q hq
 ·rw[(MV Bp).1,(MV Bp).2,(MV Iw).1,(MV Iw).2];exact h.An
 ·intro t ht
  rw[Pd hn Bp,Pd aR Iw]
  by_cases he:o.dst=some t
  ·rw[if_pos he,if_pos he]
  rw[if_neg he,if_neg he];exact h.Tu t ht
 ·intro q hq t ht KM
  rw[Pd aR Iw,if_neg (fun he=>?_)]
  ·exact h.cB q hq t ht KM
  rcases(U8 hP hi (h.Jr q hq) (fun e=>HK q hq e.symm)).1 t he ht with h1|h1
  ·exact Gf (h.Rs q hq i h1)
  exact vA q hq h1
 intro q hq d UT
 rw[Pd hn Bp,if_neg ((U8 hP (h.Jr q hq) hi (HK q hq)).2 d UT)]
 exact h.X0 q hq d UT
end
end Go.Cm
namespace Go.Cm
open Go
variable{P:Program}{w0:Bi}{K:BX}
section
variable{ih:Ap}{e:Exit}{a1:Ca}{S1:St}{ρ0:AI}{Ls:Nat→Prop}{ar:Act}{w:World}
 {Bl:List Pn}{rest:List (Oper×Nat)}{Ah:List (Nat×DD)}{a:Ca}{S:St}{A:Ca}{no:Nat→Bool}{ρ:AI}{done:Nat}
theorem ABs{full:List Oper}(h:Inv P ih full e a1 S1 w0 ρ0 Ls ar w Bl rest Ah a S A no ρ done){q:Pn}(hq:q∈Bl)(Gh:∀b,(AJ full q.i).testBit b=true→Ls b) :
  ∀t∈KW full q.o,A.get t=q.a.get t:=fun t ht=>h.cB q hq t ht fun j hj hb=>absurd (Gh _ hb) (h.Pb j hj)
theorem AO3{f:Operand→Value}{op:Op}{S:St}{v:Value}(hk:kindOf op= .read)(h:CF P f op S=some v):CG P ih f op S=some (.val v,S):=by
 unfold CG
 rw[hk]
 simp[h]
theorem uz{q:Pn}(hb:q.b=none):∀x,no x=true↔no x=true∧q.b≠some x:=fun x=>by simp[hb]
theorem AJL{ops:Array Oper}(Av:∀no,DU P ⟨w0.toWorld,no⟩ ih)(hP:Jo ops.toList (Db ops.toList []) ops.toList.zipIdx=true)(hC:D' P ops.toList=true)
  (h:Inv P ih ops.toList e a1 S1 w0 ρ0 Ls ar w Bl rest Ah a S A no ρ done){q:Pn}(hq:q∈Bl)(Gh:∀b,(AJ ops.toList q.i).testBit b=true→Ls b){ro:Option Nat}
  {Kn:Act→World→Prop}{Q:Exit→Act→World→Prop}
  (hK:∀C7 w' A' no' ρ',Inv P ih ops.toList e a1 S1 w0 ρ0 (fun x=>Ls x∨x=q.i) C7 w' (Bl.filter fun x=>!(x.i==q.i)) rest Ah a S A' no' ρ' done→Kn C7 w') :
  if Region.wanted q.o (yielded ops ar.tmps)then q.o.wpIn (FW ro) 0 P ar w Kn Q else(∀f,q.o.about P w ar.eval=some f→(FW ro).fn f)∧Kn (ar.put q.o.dst undef) w:=by
 have Wq:=ABs h hq Gh
 rw[←Tg h.act (o:=q.o),ABM Wq]
 have O':=h.Jr q hq
 have jA:NB P q.o:=Qj hC q.o (List.mem_of_getElem? O')
 have Ax:∀x,x∈q.o.op.operands→VR ρ (q.a.ev x) (ar.eval x):=fun x hx=>by
  rw[←sx Wq x hx];exact h.act.D3 h.LX jA x hx
 obtain⟨a',Bp⟩:=h.cP q hq
 obtain⟨A',Iw⟩:=y8 Bp (b:=A) (by rw[h.An.1,h.pn q hq]) q.v
 cases h.cN q hq with
 |skip hw hv hb =>
  rw[hw]
  simp only[Bool.false_eq_true,if_false]
  refine⟨Ks,hK _ _ A' no ρ (h.drop hP hq Gh Iw (uz hb) (Ext.refl _) h.LX (h.act.put Iw ?_))⟩
  rw[hv];exact VR.undef _
 |read hw hk hr hc hb =>
  rw[hw]
  simp only[if_true]
  refine⟨Ks,Tc (Av _) h.LX Ax (AO3 (ih:=ih) hk hr) ⟨?_,?_⟩⟩
  ·intro v hv ρ' v' w' h1 h2 h3
   cases hv
   exact hK _ _ A' no ρ' (h.drop hP hq Gh Iw (uz hb) h1 h3 ((h.act.mono h1).put Iw h2))
  intro c hc;cases hc
 |fresh hw hk hb hv hB hc K6 Ek Dq =>
  rename_i B mk b c
  rw[hw]
  simp only[if_true]
  refine⟨Ks,?_⟩
  have hd:∀c,q.o.op≠ .defer c:=fun c hc=>by rw[hc]at hk;simp[kindOf]at hk
  rw[Oper.semAt_eq _ _ _ hd]
  obtain⟨ob,L,v',h1,h2,h3,h4⟩:=Dq ρ ar.eval w Ax
  rw[h1]
  show Kn (ar.put q.o.dst v') (w.alloc ob)
  have RI:∀x,(no x&&!(x==b))=true↔no x=true∧q.b≠some x:=by
   intro x
   rw[hb]
   simp only[Bool.and_eq_true,Bool.not_eq_true',beq_eq_false_iff_ne,ne_eq,Option.some.injEq]
   constructor<;>(rintro⟨h1,h2⟩;exact⟨h1,fun h=>h2 h.symm⟩)
  obtain⟨k1,k2⟩:=h.LX.born (no':=fun x=>no x&&!(x==b)) Ek hB (fun x hx=>⟨((RI x).1 hx).1,fun he=>((RI x).1 hx).2 (by rw[hb,he])⟩) h2 h3
  refine hK _ _ A' _ _ (h.drop hP hq Gh Iw RI k1 k2 ((h.act.mono k1).put Iw ?_))
  rw[hv]
  exact h4 _ _ (Ju _ _ _)
theorem AGQ{ops:Array Oper}(Av:∀no,DU P ⟨w0.toWorld,no⟩ ih)(hP:Jo ops.toList (Db ops.toList []) ops.toList.zipIdx=true)(hC:D' P ops.toList=true)
  {o:Oper}{i:Nat}{r:List (Oper×Nat)}(h:Inv P ih ops.toList e a1 S1 w0 ρ0 Ls ar w Bl ((o,i)::r) Ah a S A no ρ done)(Gh:∀b,(AJ ops.toList i).testBit b=true→Ls b){ro:Option Nat}
  (hw:Du ops.toList a o=true)(hk:kindOf o.op= .Fk){Kn:Act→World→Prop}{Q:Exit→Act→World→Prop}
  (hK:∀C7 w' HZ a' S' A' ρ' Zi,Inv P ih ops.toList e a1 S1 w0 ρ0 (fun x=>Ls x∨x=i) C7 w' Bl r HZ a' S' A' no ρ' Zi→Kn C7 w') :
  if Region.wanted o (yielded ops ar.tmps)then o.wpIn (FW ro) 0 P ar w Kn Q else(∀f,o.about P w ar.eval=some f→(FW ro).fn f)∧Kn (ar.put o.dst undef) w:=by
 obtain⟨hd,Ws,_,Dp⟩:=U9 h.Jq
 have hi:ops.toList[i]?=some o:=h.mem (o,i) (by simp)
 have Gf:¬(done.testBit i=true):=by rw[hd];simp
 have Wq:∀t∈KW ops.toList o,A.get t=a.get t:=by
  refine fun t ht=>h.Tu t fun q hq he=>?_
  have HK:q.i≠i:=fun e=>Gf ((h.L5 i).2 (.inr ⟨q,hq,e⟩))
  rcases(U8 hP (h.Jr q hq) hi HK).1 t he ht with h1|h1
  ·exact h.Pb q hq (Gh _ h1)
  exact Gf (h.Rs q hq i h1)
 have jA:NB P o:=Qj hC o (List.mem_of_getElem? hi)
 have Ax:∀x,x∈o.op.operands→VR ρ (a.ev x) (ar.eval x):=fun x hx=>by
  rw[←sx Wq x hx];exact h.act.D3 h.LX jA x hx
 rw[←Tg h.act (o:=o),ABM Wq,hw]
 simp only[if_true]
 have hr:=h.run
 unfold DT at hr
 rw[hw,hk]at hr
 simp only[cond_true]at hr
 split at hr
 ·rename_i v S' BL
  split at hr
  ·rename_i a' Bp
   obtain⟨A',Iw⟩:=y8 Bp (b:=A) h.An.1 v
   cases Cy:(Ah.filter fun x=>!((nth (Db ops.toList []) i).getD 0).testBit x.1).all (fun x=>x.2.ok P S')with
   |false=>rw[Cy]at hr;cases hr
   |true =>
    rw[Cy]at hr
    simp only[cond_true]at hr
    rw[List.all_eq_true]at Cy
    refine⟨Ks,Tc (Av _) h.LX Ax BL ⟨?_,?_⟩⟩
    ·intro v2 hv ρ' v' w' h1 h2 h3
     cases hv
     exact hK _ _ _ a' S' A' ρ' _ (h.head hP Gh Bp Iw hr Cy h1 h3 ((h.act.mono h1).put Iw h2))
    intro c hc;cases hc
  cases hr
 cases hr
end
theorem mz{ops:Array Oper}{listed:Array Bool}{i:Nat}:i∈Region.ready .any ops listed↔i<ops.size∧listed.getD i true=false∧∃o,ops.toList[i]?=some o∧∀e∈o.after.toList,Region.binds .any e=true→listed.getD e.on false=true:=by
 unfold Region.ready
 simp only[List.mem_filter,List.mem_range,Bool.and_eq_true,Bool.not_eq_true']
 refine and_congr_right fun hi=>and_congr_right fun _=>?_
 have hg:ops[i]?=some ops[i]:=Array.getElem?_eq_getElem hi
 rw[Array.getElem?_toList,hg]
 simp only[Option.map_some,Option.getD_some,Option.some.injEq,exists_eq_left']
 rw[←Array.all_toList,List.all_eq_true]
 refine forall_congr' fun e=>forall_congr' fun _=>?_
 cases Region.binds .any e<;>simp
theorem Wd{l:Array Bool}{i:Nat}(h:i<l.size)(b c:Bool):l.getD i b=l.getD i c:=by
 rw[Array.getD_eq_getD_getElem?,Array.getD_eq_getD_getElem?,Array.getElem?_eq_getElem h];rfl
theorem sW{ih:Ap}{ops:Array Oper}(hP:Jo ops.toList (Db ops.toList []) ops.toList.zipIdx=true)
  {e:Exit}{a1:Ca}{S1:St}{ρ0:AI}{Q:Exit→Act→World→Prop}(hQ:∀e' C7 w',Ib P w0 ρ0 e a1 S1 e' C7 w'→Q e' C7 w'){Ls:Nat→Prop}
  {ar:Act}{w:World}{Bl:List Pn}{rest:List (Oper×Nat)}{Ah:List (Nat×DD)}{a:Ca}{S:St}{A:Ca}{no:Nat→Bool}{ρ:AI}{done:Nat}
  (h:Inv P ih ops.toList e a1 S1 w0 ρ0 Ls ar w Bl rest Ah a S A no ρ done)(Cy:∀i,i<ops.size→Ls i):Q .normal ar w:=by
 obtain⟨Bl,rest,Ah,a,S,no,done,h,hlen,uX⟩:=h.V4 hP
 have hp:Bl= []:=by
  refine List.eq_nil_iff_forall_not_mem.2 fun q hq=>h.Pb q hq (Cy q.i ?_)
  have:=(List.getElem?_eq_some_iff.1 (h.Jr q hq)).1
  simpa using this
 have hr:rest= []:=by
  cases rest with
  |nil=>rfl
  |cons x r =>
   obtain⟨o,i⟩:=x
   have hi:=(List.getElem?_eq_some_iff.1 (h.mem (o,i) (by simp))).1
   have:=(U9 h.Jq).1
   rw[(h.L5 i).2 (.inl (Cy i (by simpa using hi)))]at this
   cases this
 subst hp hr
 have Dq:=h.run
 simp only[DT,Option.some.injEq,Prod.mk.injEq]at Dq
 obtain⟨rfl,rfl,rfl⟩:=Dq
 refine hQ _ _ _ ⟨ρ,h.ext,.normal,⟨by rw[←h.An.1];exact h.act.le,⟨by rw[←h.An.1];exact h.act.tm.1,fun t=>?_⟩,by rw[←h.An.2];exact h.act.df⟩,?_⟩
 ·have:=h.act.tm.2 t
  rw[←get_eq,h.Tu t (fun q hq=>by cases hq)]at this
  exact this
 have e1:no=w0.no:=by
  funext x
  have:=h.Qg x
  simp only[List.not_mem_nil,false_and,exists_false,or_false]at this
  cases h1:no x<;>cases h2:w0.no x<;>simp_all
 have:=h.LX
 rw[e1]at this
 exact this
def Yh(n:Nat)(listed:Array Bool):Nat:=((List.range n).filter fun x=>!(listed.getD x false)).length
theorem oa{n:Nat}{listed:Array Bool}{i:Nat}(hi:i<n)(hs:listed.size=n)(hl:listed.getD i false=false):Yh n (listed.setIfInBounds i true)<Yh n listed:=by
 unfold Yh
 have Iz:∀x,(listed.setIfInBounds i true).getD x false=(listed.getD x false||x==i):=by
  intro x
  rw[Array.getD_eq_getD_getElem?,Array.getElem?_setIfInBounds]
  by_cases e:i=x
  ·subst e;simp[hs,hi]
  rw[if_neg e,←Array.getD_eq_getD_getElem?]
  have:(x==i)=false:=by simpa using fun h:x=i=>e h.symm
  rw[this,Bool.or_false]
 have e1:((List.range n).filter fun x=>!((listed.setIfInBounds i true).getD x false))=(((List.range n).filter fun x=>!(listed.getD x false)).filter fun x=>!(x==i)):=by
  rw[List.filter_filter]
  refine List.filter_congr fun x _=>?_
  rw[Iz,Bool.not_or,Bool.and_comm]
 rw[e1]
 exact List.length_filter_lt_length_iff_exists.2 ⟨i,List.mem_filter.2 ⟨List.mem_range.2 hi,by rw[hl];rfl⟩,by simp⟩
theorem ABx{ih:Ap}{ops:Array Oper}(Av:∀no,DU P ⟨w0.toWorld,no⟩ ih)(hE:WM ops.toList.zipIdx=true)(hP:Jo ops.toList (Db ops.toList []) ops.toList.zipIdx=true)(hC:D' P ops.toList=true)
  {e:Exit}{a1:Ca}{S1:St}{ρ0:AI}{ro:Option Nat}{Q:Exit→Act→World→Prop}(hQ:∀e' C7 w',Ib P w0 ρ0 e a1 S1 e' C7 w'→Q e' C7 w') :
  ∀(fuel:Nat) (listed:Array Bool) (ar:Act) (w:World) (Bl:List Pn) (rest:List (Oper×Nat)) (Ah:List (Nat×DD)) (a:Ca) (S:St) (A:Ca) (no:Nat→Bool) (ρ:AI) (done:Nat),
   Inv P ih ops.toList e a1 S1 w0 ρ0 (fun x=>listed.getD x false=true) ar w Bl rest Ah a S A no ρ done→listed.size=ops.size→Yh ops.size listed≤fuel →
   wpAnyIn (FW ro) 0 P .any ops Q fuel listed ar w:=by
 intro fuel
 induction fuel with
 |zero =>
  intro listed ar w Bl rest Ah a S A no ρ done h A4 hle
  have Cy:∀i,i<ops.size→listed.getD i false=true:=by
   intro i hi
   cases hl:listed.getD i false with
   |true=>rfl
   |false =>
    have:=oa hi A4 hl
    omega
  refine⟨List.eq_nil_iff_forall_not_mem.2 fun i hi=>?_,sW hP hQ h Cy⟩
  obtain⟨h1,h2,_⟩:=mz.1 hi
  rw[Wd (by omega) true false,Cy i h1]at h2
  cases h2
 |succ fuel vh =>
  intro listed ar w Bl rest Ah a S A no ρ done h A4 hle
  obtain⟨Bl,rest,Ah,a,S,no,done,h,hlen,uX⟩:=h.V4 hP
  refine⟨fun W7=>?_,fun i hi=>?_⟩
  ·have Cy:∀i,i<ops.size→listed.getD i false=true:=by
    intro i
    induction i using Nat.strongRecOn with
    |ind i ihi =>
     intro hi
     cases hl:listed.getD i false with
     |true=>rfl
     |false =>
      have:i∈Region.ready .any ops listed:=by
       refine mz.2 ⟨hi,by rw[Wd (by omega) true false];exact hl,ops[i],by rw[Array.getElem?_toList];exact Array.getElem?_eq_getElem hi,fun e he hb=>?_⟩
       have AN:=fZ hE (by rw[Array.getElem?_toList];exact Array.getElem?_eq_getElem hi) e he hb
       exact ihi e.on AN (by omega)
      rw[W7]at this
      cases this
   exact sW hP hQ h Cy
  obtain⟨Q9,DH,o,ho,hed⟩:=mz.1 hi
  have Gh:∀b,(AJ ops.toList i).testBit b=true→listed.getD b false=true:=by
   intro b hb
   obtain⟨e,he,iP,hx⟩:=(ADT hE ho b).1 hb
   have h1:=hed e he iP
   rcases hx with rfl|hx
   ·exact h1
   exact h.cls _ h1 b hx
  have Iz:∀x,(listed.setIfInBounds i true).getD x false=true↔listed.getD x false=true∨x=i:=by
   intro x
   rw[Array.getD_eq_getD_getElem?,Array.getElem?_setIfInBounds]
   by_cases e:i=x
   ·subst e;simp[A4,Q9]
   rw[if_neg e,←Array.getD_eq_getD_getElem?]
   constructor
   ·exact .inl
   rintro(h|h)
   ·exact h
   exact absurd h.symm e
  have uB:(fun x=>(listed.setIfInBounds i true).getD x false=true)=fun x=>listed.getD x false=true∨x=i:=funext fun x=>propext (Iz x)
  have IC:ops[i]?=some o:=by rw[←Array.getElem?_toList];exact ho
  unfold wpOpIn
  rw[IC]
  simp only
  have Cb:¬(listed.getD i false=true):=by rw[←Wd (by omega) true false,DH];simp
  rcases yk _ _ h.Jq i (by simpa using Q9)with h3|⟨o',h3⟩
  ·rcases(h.L5 i).1 h3 with h4|⟨q,hq,rfl⟩
   ·exact absurd h4 Cb
   have e1:o=q.o:=by
    have:=h.Jr q hq
    rw[ho]at this
    exact Option.some.inj this
   subst e1
   refine AJL Av hP hC h hq Gh fun C7 w' A' no' ρ' h'=>?_
   rw[←uB]at h'
   refine vh _ _ _ _ _ _ _ _ _ _ _ _ h' (by simp[A4]) ?_
   have:=oa Q9 A4 (by rw[←Wd (by omega) true false];exact DH)
   omega
  cases rest with
  |nil=>cases h3
  |cons x r =>
   obtain⟨p,k⟩:=x
   obtain⟨hw,hk⟩:=uX p k r rfl
   obtain⟨hd,Ws,hhv,Dp⟩:=U9 h.Jq
   rcases List.mem_cons.1 h3 with h4|h4
   ·cases h4
    have e1:o=o':=by
     have:=h.mem (o',i) (by simp)
     simp only at this
     rw[ho]at this
     exact Option.some.inj this
    subst e1
    refine AGQ Av hP hC h Gh hw hk fun C7 w' HZ a' S' A' ρ' Zi h'=>?_
    rw[←uB]at h'
    refine vh _ _ _ _ _ _ _ _ _ _ _ _ h' (by simp[A4]) ?_
    have:=oa Q9 A4 (by rw[←Wd (by omega) true false];exact DH)
    omega
   have h5:=Gh k (hhv hk _ h4)
   have:done.testBit k=true:=(h.L5 k).2 (.inl h5)
   rw[hd]at this
   cases this
theorem AE6{ih:Ap}(hm:P.follows .mixedOrders=true)(Av:∀no,DU P ⟨w0.toWorld,no⟩ ih):p9 P w0 ih:=by
 intro id ops a S e a1 S1 h hC ro ρ w ar hs ha
 unfold OH at h
 split at h
 ·rename_i bf pl Dp
  unfold Rx at Dp
  cases hg:(m6 ops.toList&&OB ops.toList (Db ops.toList []) (cM ops.toList) 0)with
  |false=>simp only[hg,cond_false]at Dp;cases Dp
  |true =>
   simp only[hg,cond_true,Option.some.injEq,Prod.mk.injEq]at Dp
   obtain⟨rfl,rfl⟩:=Dp
   simp only[Bool.and_eq_true]at hg
   obtain⟨vH,AGo⟩:=hg
   simp only[m6,Bool.and_eq_true]at vH
   obtain⟨⟨hE,hP⟩,_⟩:=vH
   refine wpIn_region_any hm ?_
   have uq:∀x,¬((Array.replicate ops.size false).getD x false=true):=by
    intro x
    rw[Array.getD_eq_getD_getElem?,Array.getElem?_replicate]
    split<;>simp
   refine ABx Av hE hP hC (fun _ _ _ h=>h) ops.size _ ar _ [] (cM ops.toList) [] a S a w0.no ρ 0 ?_ (by simp) (by unfold Yh;refine Nat.le_trans (List.length_filter_le ..) (by simp))
   refine⟨h,AGo,AJV,fun x=>by simp[uq],fun j hj=>absurd hj (uq j),fun q hq=>(by cases hq),fun q hq=>(by cases hq),fun q hq=>(by cases hq),fun q hq=>(by cases hq),fun q hq=>(by cases hq),
    fun q hq=>(by cases hq),fun q hq=>(by cases hq),⟨rfl,rfl⟩,fun _ _=>rfl,fun q hq=>(by cases hq),fun q hq=>(by cases hq),fun q hq=>(by cases hq),fun x=>by simp,fun q hq=>(by cases hq),fun q hq=>(by cases hq),
    Ext.refl _,hs.same rfl rfl rfl,ha⟩
 cases h
theorem gM{W:World}(hm:P.follows .mixedOrders=true)(hK:Jz P K W):∀(n m:Nat),m≤n→∀no,DU P ⟨W,no⟩ (fns P K m):=by
 intro n
 induction n with
 |zero =>
  intro m hle no
  have:m=0:=by omega
  subst this
  exact⟨(fun t args S e S' h=>by cases h),(fun ro c a S e a' S' h=>by cases h)⟩
 |succ n XO =>
  intro m hle no
  rcases Nat.lt_or_ge m (n+1)with h1|h1
  ·exact XO m (by omega) no
  have:m=n+1:=by omega
  subst this
  exact⟨AEX (XO n (Nat.le_refl _) no) hK,AFN (fun m hm=>XO m hm no) (AE6 hm (XO n (Nat.le_refl _))) (AJj (XO n (Nat.le_refl _) no))⟩
end Go.Cm
namespace Go.Cm
structure GW(α:Type)(d:Nat) where
 f:PT α d→Option α
def idG{α:Type}(t:PT α 0):Option α:=t
def AFz{α:Type}{d:Nat}(g:PT α d→Option α)(t:PT α (d+1)):Option α:=g t.1
def AF0{α:Type}{d:Nat}(g:PT α d→Option α)(t:PT α (d+1)):Option α:=g t.2
def Ze{α:Type}{d:Nat}(w:GW α d):GW α (d+1):=match w with
 |⟨g⟩=>⟨AFz g⟩
def Zf{α:Type}{d:Nat}(w:GW α d):GW α (d+1):=match w with
 |⟨g⟩=>⟨AF0 g⟩
noncomputable def Qn{α:Type}(d:Nat):Nat→GW α d :=
 Nat.rec (motive:=fun d=>Nat→GW α d) (fun _=>⟨idG⟩) (fun _ ih k=>Bool.rec (motive:=fun _=>GW α _) (Zf (ih (Nat.div k 2))) (Ze (ih (Nat.div k 2))) (Nat.beq (Nat.mod k 2) 0)) d
noncomputable def Ov{α:Type}(d k:Nat):GW α d:=Bool.rec (motive:=fun _=>GW α d) ⟨fun _=>none⟩ (Qn d k) (Nat.blt k (2 ^ d))
structure SW(α:Type)(d:Nat) where
 f:Option α→PT α d→PT α d
def idS{α:Type}(v:Option α)(_:PT α 0):PT α 0:=v
noncomputable def ANF{α:Type}{d:Nat}(g:Option α→PT α d→PT α d)(v:Option α)(t:PT α (d+1)):PT α (d+1):=Prod.rec (motive:=fun _=>PT α d×PT α d) (fun l r=>(g v l,r)) t
noncomputable def ANJ{α:Type}{d:Nat}(g:Option α→PT α d→PT α d)(v:Option α)(t:PT α (d+1)):PT α (d+1):=Prod.rec (motive:=fun _=>PT α d×PT α d) (fun l r=>(l,g v r)) t
noncomputable def cq{α:Type}{d:Nat}(w:SW α d):SW α (d+1):=match w with
 |⟨g⟩=>⟨ANF g⟩
noncomputable def cr{α:Type}{d:Nat}(w:SW α d):SW α (d+1):=match w with
 |⟨g⟩=>⟨ANJ g⟩
noncomputable def R8{α:Type}(d:Nat):Nat→SW α d :=
 Nat.rec (motive:=fun d=>Nat→SW α d) (fun _=>⟨idS⟩) (fun _ ih k=>Bool.rec (motive:=fun _=>SW α _) (cr (ih (k/2))) (cq (ih (k/2))) (Nat.beq (k%2) 0)) d
noncomputable def Pm{α:Type}(d k:Nat):SW α d:=Bool.rec (motive:=fun _=>SW α d) ⟨fun _ t=>t⟩ (R8 d k) (Nat.blt k (2 ^ d))
abbrev Hp:=Cr
def eb{α:Type}{d:Nat}(w:SW α d)(v:Option α)(t:PT α d):PT α d:=match w with
 |⟨g⟩=>g v t
noncomputable def Tx{α:Type}(d:Nat):PT α d→Nat→Option α :=
 Nat.rec (motive:=fun d=>PT α d→Nat→Option α) (fun t _=>t) (fun _ ih t k=>Bool.rec (motive:=fun _=>Option α) (ih t.2 (Nat.div k 2)) (ih t.1 (Nat.div k 2)) (Nat.beq (Nat.mod k 2) 0)) d
noncomputable def QP{α:Type}(v:Option α)(d:Nat):PT α d→Nat→PT α d :=
 Nat.rec (motive:=fun d=>PT α d→Nat→PT α d) (fun _ _=>v)
  (fun d ih t k=>Prod.rec (motive:=fun _=>PT α d×PT α d) (fun l r=>Bool.rec (motive:=fun _=>PT α d×PT α d) (l,ih r (Nat.div k 2)) (ih l (Nat.div k 2),r) (Nat.beq (Nat.mod k 2) 0)) t) d
noncomputable def AGX(h:Hp)(b:Nat):Option AF:=Cr.rec (motive:=fun _=>Option AF) (fun t more=>Bool.rec (motive:=fun _=>Option AF) (more b) (Tx 18 t b) (Nat.blt b 262144)) h
noncomputable def Dm(S:St)(b:Nat):Option AF:=AGX S.heap b
noncomputable def Iz(h:Hp)(b:Nat)(x:Option AF):Hp:=Cr.rec (motive:=fun _=>Hp) (fun t more=>Bool.rec (motive:=fun _=>Hp) ⟨t,fun j=>bif Nat.beq j b then x else more j⟩ ⟨QP x 18 t b,more⟩ (Nat.blt b 262144)) h
abbrev AY:=Option (Exit×Ca×St)
abbrev C6:=Value→St→AY
abbrev DK:=List PanicEntry→St→AY
abbrev Hx:=Ap→Tm→St→C6→DK→AY
def Lj(r:Option (QX×St))(ok:C6)(Ab:DK):AY:=match r with
 |some (.val v,S')=>ok v S'
 |some (.Ab ch,S')=>Ab ch S'
 |none=>none
noncomputable def V7(v:Value):Option Bool:=@Value.rec (fun _=>Option Bool) (fun _=>PUnit) (fun _=>PUnit) some (fun _ _=>none) (fun _ _=>none) (fun _ _ _=>none) (fun _=>none) (fun _=>none) (fun _ _ _=>none) (fun _=>none) (fun _=>none)
 (fun _ _ _ _ _=>none) none (fun _ _ _=>none) none (fun _ _=>none) (fun _ _=>none) (fun _ _=>⟨⟩) ⟨⟩ (fun _ _ _ _=>⟨⟩) v
noncomputable def Qc(v:Value):Option (IntKind×Int):=@Value.rec (fun _=>Option (IntKind×Int)) (fun _=>PUnit) (fun _=>PUnit) (fun _=>none) (fun k n=>some (k,n)) (fun _ _=>none) (fun _ _ _=>none) (fun _=>none) (fun _=>none) (fun _ _ _=>none) (fun _=>none) (fun _=>none)
 (fun _ _ _ _ _=>none) none (fun _ _ _=>none) none (fun _ _=>none) (fun _ _=>none) (fun _ _=>⟨⟩) ⟨⟩ (fun _ _ _ _=>⟨⟩) v
def addrOf(a:Option Addr):Option (Nat×Nat):=match a with
 |some ⟨b,o,none⟩=>some (b,o)
 |_=>none
noncomputable def NH(v:Value):Option (Nat×Nat):=@Value.rec (fun _=>Option (Nat×Nat)) (fun _=>PUnit) (fun _=>PUnit) (fun _=>none) (fun _ _=>none) (fun _ _=>none) (fun _ _ _=>none) (fun _=>none) addrOf (fun _ _ _=>none) (fun _=>none) (fun _=>none)
 (fun _ _ _ _ _=>none) none (fun _ _ _=>none) none (fun _ _=>none) (fun _ _=>none) (fun _ _=>⟨⟩) ⟨⟩ (fun _ _ _ _=>⟨⟩) v
def n6(a:Option Addr)(len:Nat)(_:Nat):Option (Nat×Nat×Nat):=match a with
 |some ⟨b,o,none⟩=>some (b,o,len)
 |_=>none
noncomputable def qd(v:Value):Option (Nat×Nat×Nat):=@Value.rec (fun _=>Option (Nat×Nat×Nat)) (fun _=>PUnit) (fun _=>PUnit) (fun _=>none) (fun _ _=>none) (fun _ _=>none) (fun _ _ _=>none) (fun _=>none) (fun _=>none) n6 (fun _=>none) (fun _=>none)
 (fun _ _ _ _ _=>none) none (fun _ _ _=>none) none (fun _ _=>none) (fun _ _=>none) (fun _ _=>⟨⟩) ⟨⟩ (fun _ _ _ _=>⟨⟩) v
noncomputable def qe(v:Value):Option (List Value):=@Value.rec (fun _=>Option (List Value)) (fun _=>PUnit) (fun _=>PUnit) (fun _=>none) (fun _ _=>none) (fun _ _=>none) (fun _ _ _=>none) (fun _=>none) (fun _=>none) (fun _ _ _=>none) (fun _=>none) (fun _=>none)
 (fun _ _ _ _ _=>none) none (fun _ _ _=>none) none (fun _ _=>none) (fun vs _=>some vs.toList) (fun _ _=>⟨⟩) ⟨⟩ (fun _ _ _ _=>⟨⟩) v
noncomputable def ZY(v:Value):List Value:=@Value.rec (fun _=>List Value) (fun _=>PUnit) (fun _=>PUnit) (fun _=>[v]) (fun _ _=>[v]) (fun _ _=>[v]) (fun _ _ _=>[v]) (fun _=>[v]) (fun _=>[v]) (fun _ _ _=>[v]) (fun _=>[v]) (fun _=>[v])
 (fun _ _ _ _ _=>[v]) [v] (fun _ _ _=>[v]) [v] (fun cs _=>cs.toList) (fun _ _=>[v]) (fun _ _=>⟨⟩) ⟨⟩ (fun _ _ _ _=>⟨⟩) v
noncomputable def HA{α:Type}(o:Option α)(k:α→AY):AY:=Option.rec (motive:=fun _=>AY) none k o
noncomputable def Jw{α β:Type}(o:Option (α×β))(k:α→β→AY):AY:=Option.rec (motive:=fun _=>AY) none (fun p=>k p.1 p.2) o
noncomputable def ABN{α β γ:Type}(o:Option (α×β×γ))(k:α→β→γ→AY):AY:=Option.rec (motive:=fun _=>AY) none (fun p=>k p.1 p.2.1 p.2.2) o
def ZZ(b:Option AF):Option (List Value):=match b with
 |some (.cells c _ _ _ _)=>some c
 |_=>none
structure HX where
 get:Tm→Value
noncomputable def oZ(o:Option Value):Value:=Option.rec (motive:=fun _=>Value) undef (fun v=>v) o
noncomputable def AR7(g:Tm→Option Value)(t:Tm):Value:=oZ (g t)
def fU(v:Value)(_:Tm):Value:=v
noncomputable def oU(w:GW Value 8):HX:=match w with
 |⟨g⟩=>⟨AR7 g⟩
noncomputable def Bz:Operand→HX
 | .tmp t=>oU (Ov 8 t)
 | .const v=>⟨fU v⟩
 | .global g=>⟨fU (.pointer (some ⟨g,0,none⟩))⟩
 | .func f=>⟨fU (.func (.func f) #[] #[])⟩
def Bw(t:Tm)(x:Operand):Value:=match x with
 | .tmp i=>match t.get i with
  |some v=>v
  |none=>undef
 | .const v=>v
 | .global g=> .pointer (some ⟨g,0,none⟩)
 | .func f=> .func (.func f) #[] #[]
structure Eb where
 run:Hx
noncomputable def AIp(g:Tm→Value)(_:Ap)(t:Tm)(S:St)(ok:C6)(_:DK):AY:=ok (g t) S
noncomputable def AIq(g:Tm→Option Value)(_:Ap)(t:Tm)(S:St)(ok:C6)(_:DK):AY:=Option.rec (motive:=fun _=>AY) (ok undef S) (fun v=>ok v S) (g t)
noncomputable def lh(w:GW Value 8):Eb:=match w with
 |⟨g⟩=>⟨AIq g⟩
noncomputable def xe(w:HX):Eb:=match w with
 |⟨g⟩=>⟨AIp g⟩
noncomputable def lj:Operand→Eb
 | .tmp t=>lh (Ov 8 t)
 |x=>xe (Bz x)
def Jj(_:Ap)(_:Tm)(_:St)(_:C6)(_:DK):AY:=none
variable(P:Program)
def LY(op:Op)(ih:Ap)(t:Tm)(S:St)(ok:C6)(Ab:DK):AY:=Lj (CG P ih (Bw t) op S) ok Ab
noncomputable def xI(n b o:Nat)(S:St)(ok:C6):AY:=HA (ZZ (Dm S b)) fun c=>HA (takeN n (CH o c)) fun l=>ok (AX l) S
noncomputable def lW(n:Nat)(g:Tm→Value)(_:Ap)(t:Tm)(S:St)(ok:C6)(_:DK):AY:=Jw (NH (g t)) fun b o=>xI n b o S ok
noncomputable def xK(b o:Nat)(S:St)(ok:C6):AY:=HA (ZZ (Dm S b)) fun c=>HA (nth c o) fun v=>ok v S
noncomputable def bZ(g:Tm→Value)(_:Ap)(t:Tm)(S:St)(ok:C6)(_:DK):AY:=Jw (NH (g t)) fun b o=>xK b o S ok
noncomputable def ba(a:Option Bool)(n:Option Nat)(e:HX):Eb:=match a,n,e with
 |some true,some n,⟨g⟩=>⟨lW n g⟩
 |some false,_,⟨g⟩=>⟨bZ g⟩
 |_,_,_=>⟨Jj⟩
noncomputable def lY(t:TypeId)(x:Operand):Eb:=ba (Fv P t) (A5 P t) (Bz x)
noncomputable def fw(off:Nat)(g:Tm→Value)(_:Ap)(t:Tm)(S:St)(ok:C6)(_:DK):AY:=Jw (NH (g t)) fun b o=>ok (ptrTo b (Nat.add o off)) S
noncomputable def AFR(off:Nat)(e:HX):Eb:=match e with
 |⟨g⟩=>⟨fw off g⟩
noncomputable def fx(s:TypeId)(x:Operand)(i:Nat):Eb:=match P.underlying s with
 |some (.struct fields)=>match nth fields.toList i with
  |some f=>match A5 P f.type with
   |some (_+1)=>AFR f.offset (Bz x)
   |_=>⟨Jj⟩
  |none=>⟨Jj⟩
 |_=>⟨Jj⟩
noncomputable def jk(n:Int)(len:Nat)(k:Nat→AY):AY:=Int.rec (motive:=fun _=>AY) (fun i=>Bool.rec (motive:=fun _=>AY) none (k i) (Nat.blt i len)) (fun _=>none) n
noncomputable def jn(n:Nat)(g h:Tm→Value)(_:Ap)(t:Tm)(S:St)(ok:C6)(_:DK):AY :=
 Jw (Qc (h t)) fun _ i=>ABN (qd (g t)) fun b o len=>jk i len fun j=>ok (ptrTo b (Nat.add o (Nat.mul j n))) S
noncomputable def jm(len n:Nat)(g h:Tm→Value)(_:Ap)(t:Tm)(S:St)(ok:C6)(_:DK):AY :=
 Jw (Qc (h t)) fun _ i=>Jw (NH (g t)) fun b o=>jk i len fun j=>ok (ptrTo b (Nat.add o (Nat.mul j n))) S
noncomputable def vo(arr:Option Nat)(n:Nat)(e f:HX):Eb:=match arr,e,f with
 |some len,⟨g⟩,⟨h⟩=>⟨jm len n g h⟩
 |none,⟨g⟩,⟨h⟩=>⟨jn n g h⟩
noncomputable def jl(ty:TypeId)(x i:Operand):Eb:=match P.underlying ty with
 |some (.array len elem)=>match A5 P elem with
  |some n=>vo (some len) n (Bz x) (Bz i)
  |none=>⟨Jj⟩
 |some (.slice elem)=>match A5 P elem with
  |some n=>vo none n (Bz x) (Bz i)
  |none=>⟨Jj⟩
 |_=>⟨Jj⟩
def Ym(k:IntKind)(n:Int):Int:=match k,n with
 | .i64,.ofNat m=>bif Nat.blt m 9223372036854775808 then .ofNat m else IntKind.i64.wrap (.ofNat m)
 | .i64,.negSucc m=>bif Nat.blt m 9223372036854775808 then .negSucc m else IntKind.i64.wrap (.negSucc m)
 | .u64,.ofNat m=>bif Nat.blt m 18446744073709551616 then .ofNat m else IntKind.u64.wrap (.ofNat m)
 |k,n=>k.wrap n
def XZ:Int→Int→Bool
 | .ofNat a,.ofNat b=>Nat.blt a b
 | .ofNat _,.negSucc _=>false
 | .negSucc _,.ofNat _=>true
 | .negSucc a,.negSucc b=>Nat.blt b a
def WS:Int→Int→Bool
 | .ofNat a,.ofNat b=>Nat.beq a b
 | .negSucc a,.negSucc b=>Nat.beq a b
 |_,_=>false
def XX:IntKind→Nat
 | .i8=>0
 | .i16=>1
 | .i32=>2
 | .i64=>3
 | .u8=>4
 | .u16=>5
 | .u32=>6
 | .u64=>7
def cf(j k:IntKind):Bool:=Nat.beq (XX j) (XX k)
abbrev Vu:=IntKind→Int→Int→Value
noncomputable def ADL(f:Vu)(Po:AY)(k:IntKind)(a:Int)(S:St)(ok:C6)(o:Option (IntKind×Int)):AY :=
 Option.rec (motive:=fun _=>AY) Po (fun p=>Bool.rec (motive:=fun _=>AY) none (ok (f k a p.2) S) (cf k p.1)) o
noncomputable def qo(f:Vu)(Po:AY)(S:St)(ok:C6)(o o':Option (IntKind×Int)):AY :=
 Option.rec (motive:=fun _=>AY) Po (fun p=>ADL f Po p.1 p.2 S ok o') o
noncomputable def ADK(f:Vu)(sl:Hx)(g h:Tm→Value)(ih:Ap)(t:Tm)(S:St)(ok:C6)(Ab:DK):AY :=
 qo f (sl ih t S ok Ab) S ok (Qc (g t)) (Qc (h t))
def qQ(k:IntKind)(a b:Int):Value:= .int k (Ym k (Int.add a b))
def AAv(k:IntKind)(a b:Int):Value:= .int k (Ym k (Int.sub a b))
def xi(k:IntKind)(a b:Int):Value:= .int k (Ym k (Int.mul a b))
def su(_:IntKind)(a b:Int):Value:= .bool (WS a b)
def xk(_:IntKind)(a b:Int):Value:= .bool (!WS a b)
def xO(_:IntKind)(a b:Int):Value:= .bool (XZ a b)
def w9(_:IntKind)(a b:Int):Value:= .bool (!XZ b a)
def te(_:IntKind)(a b:Int):Value:= .bool (XZ b a)
def ta(_:IntKind)(a b:Int):Value:= .bool (!XZ a b)
def Y'(op:BinOp):Option Vu:=match op with
 | .add=>some qQ
 | .sub=>some AAv
 | .mul=>some xi
 | .eql=>some su
 | .neq=>some xk
 | .lss=>some xO
 | .leq=>some w9
 | .gtr=>some te
 | .geq=>some ta
 |_=>none
noncomputable def ADP(f:Option Vu)(sl:Hx)(e e':HX):Eb:=match f,e,e' with
 |some f,⟨g⟩,⟨h⟩=>⟨ADK f sl g h⟩
 |none,_,_=>⟨sl⟩
noncomputable def e6(op:BinOp)(t:TypeId)(x y:Operand)(yt:TypeId):Eb:=ADP (Y' op) (LY P (.binOp op t x y yt)) (Bz x) (Bz y)
noncomputable def fu(i:Nat)(g:Tm→Value)(_:Ap)(t:Tm)(S:St)(ok:C6)(_:DK):AY:=HA (qe (g t)) fun l=>HA (nth l i) fun v=>ok v S
noncomputable def tC(i:Nat)(e:HX):Eb:=match e with
 |⟨g⟩=>⟨fu i g⟩
noncomputable def mU(c a b:Tm→Value)(_:Ap)(t:Tm)(S:St)(ok:C6)(_:DK):AY:=HA (V7 (c t)) fun x=>Bool.rec (motive:=fun _=>AY) (ok (b t) S) (ok (a t) S) x
noncomputable def yg(c a b:HX):Eb:=match c,a,b with
 |⟨f⟩,⟨g⟩,⟨h⟩=>⟨mU f g h⟩
noncomputable def lr(g:Tm→Value)(_:Ap)(t:Tm)(S:St)(ok:C6)(_:DK):AY:=HA (V7 (g t)) fun x=>ok (.bool (not x)) S
noncomputable def x8(e:HX):Eb:=match e with
 |⟨g⟩=>⟨lr g⟩
noncomputable def newAt(h:Hp)(x:AF)(ok:C6)(n:Nat):AY:=ok (ptrTo n 0) ⟨Iz h n (some x),Nat.succ n⟩
noncomputable def Xc(x:AF)(S:St)(ok:C6):AY:=Nat.rec (motive:=fun _=>AY) (newAt S.heap x ok 0) (fun m _=>newAt S.heap x ok (Nat.succ m)) S.size
noncomputable def ABu(x:AF)(_:Ap)(_:Tm)(S:St)(ok:C6)(_:DK):AY:=Xc x S ok
noncomputable def qX(z:Option (List Value))(e:TypeId):Eb:=match z with
 |some z=>⟨ABu (.cells z e false true [])⟩
 |none=>⟨Jj⟩
noncomputable def fE(e:TypeId)(g:Tm→Value)(_:Ap)(t:Tm)(S:St)(ok:C6)(_:DK):AY:=Xc (.cells (ZY (g t)) e false true []) S ok
noncomputable def rW(e:TypeId)(x:HX):Eb:=match x with
 |⟨g⟩=>⟨fE e g⟩
noncomputable def px(S:St)(b o:Nat)(vs:List Value)(Po:AY)(ok:C6)(x:Option AF):AY:=match x with
 |some (.cells c e row true [])=>HA (Bq o vs c) fun c'=>ok undef ⟨Iz S.heap b (some (.cells c' e row true [])),S.size⟩
 |_=>Po
noncomputable def oN(n:Nat)(S:St)(b o:Nat)(vs:List Value)(Po:AY)(ok:C6):AY :=
 Bool.rec (motive:=fun _=>AY) none (px S b o vs Po ok (Dm S b)) (Nat.beq vs.length n&&vs.all D9&&Nat.blt 0 vs.length)
noncomputable def AO4(n:Nat)(sl:Hx)(g h:Tm→Value)(ih:Ap)(t:Tm)(S:St)(ok:C6)(Ab:DK):AY :=
 Jw (NH (g t)) fun b o=>oN n S b o (ZY (h t)) (sl ih t S ok Ab) ok
noncomputable def AAr(n:Option Nat)(sl:Hx)(e e':HX):Eb:=match n,e,e' with
 |some n,⟨g⟩,⟨h⟩=>⟨AO4 n sl g h⟩
 |none,_,_=>⟨Jj⟩
def fe(r:Option (Ending×St))(ok:C6)(Ab:DK):AY:=match r with
 |some (.returned v,S')=>ok v S'
 |some (.panicked ch,S')=>Ab ch S'
 |_=>none
def V6:List (Tm→Value)→Tm→List Value
 | [],_=>[]
 |g::r,t=>g t::V6 r t
def AEY(f:FuncId)(gs:List (Tm→Value))(ih:Ap)(t:Tm)(S:St)(ok:C6)(Ab:DK):AY:=fe (ih.call (.fn (.func f) #[]) (V6 gs t) S) ok Ab
noncomputable def We:List Operand→List (Tm→Value)
 | []=>[]
 |x::r=>(Bz x).get::We r
noncomputable def fJ(c:Call)(op:Op):Eb:=match c.callee with
 | .value (.func f)=>⟨AEY f (We c.args.toList)⟩
 |_=>⟨LY P op⟩
noncomputable def sw(e:HX)(t:Tm):Value:=HX.rec (motive:=fun _=>Value) (fun g=>g t) e
noncomputable def NV(t:Tm)(x:Operand):Value:=sw (Bz x) t
noncomputable def X9(f:(Operand→Value)→Option Value)(_:Ap)(t:Tm)(S:St)(ok:C6)(_:DK):AY:=HA (f (NV t)) fun v=>ok v S
noncomputable def mw(f:(Operand→Value)→St→Option Value)(_:Ap)(t:Tm)(S:St)(ok:C6)(_:DK):AY:=HA (f (NV t) S) fun v=>ok v S
noncomputable def bn(f:(Operand→Value)→St→Option (Value×St))(_:Ap)(t:Tm)(S:St)(ok:C6)(_:DK):AY:=Jw (f (NV t) S) ok
def bg(ρ:Operand→Value):List (Nat×Operand)→List (Nat×Value)
 | []=>[]
 |x::r=>(x.1,ρ x.2)::bg ρ r
def rY(t:TypeId)(l:List (Nat×Operand))(ρ:Operand→Value):Option Value:=WD P t (bg ρ l)
def AI1(x:Operand)(ρ:Operand→Value):Option Value:=Xe (ρ x)
def AFW(t:TypeId)(x:Operand)(i:Nat)(ρ:Operand→Value):Option Value:=Zr P t (ρ x) i
def AHc(t:TypeId)(x i:Operand)(ρ:Operand→Value):Option Value:=Nt P t (ρ x) (ρ i)
def AH9(t:TypeId)(x:Operand)(ρ:Operand→Value)(S:St):Option Value:=Fo P t (ρ x) S
def ANM(t:TypeId)(x:Operand)(lo hi mx:Option Operand)(ρ:Operand→Value)(S:St):Option Value:=Fq P t (ρ x) (lo.map ρ) (hi.map ρ) (mx.map ρ) S
def AED(t:TypeId)(len:Nat)(parts:Array (Nat×Operand))(ρ:Operand→Value)(S:St):Option (Value×St):=DY P ρ (.buildSlice t len parts) S
def bh(ρ:Operand→Value):List Operand→List Value
 | []=>[]
 |x::r=>ρ x::bh ρ r
def fF(b:Builtin)(ts:List TypeId)(args:List Operand)(ρ:Operand→Value)(S:St):Option (Value×St):=ER P b ts (bh ρ args) S
noncomputable def fG(b:Builtin)(args:List Operand)(ts:List TypeId)(op:Op):Eb:=match b,args,ts with
 | .len,[x],t::_=>⟨mw (AH9 P t x)⟩
 | .len,_,_=>⟨LY P op⟩
 |b,args,ts=>⟨bn (fF P b ts args)⟩
noncomputable def ru(c:Call)(op:Op):Eb:=match c.callee with
 | .builtin b=>fG P b c.args.toList c.argTypes.toList op
 |_=>fJ P c op
noncomputable def Jm(op:Op):Eb:=match op with
 | .move x=>lj x
 | .assign x=>lj x
 | .pick c a b=>yg (Bz c) (Bz a) (Bz b)
 | .load t x=>lY P t x
 | .fieldAddr s x i=>fx P s x i
 | .indexAddr t x i=>jl P t x i
 | .binOp o t x y yt=>e6 P o t x y yt
 | .unOp .not _ x=>x8 (Bz x)
 | .extract x i=>tC i (Bz x)
 | .alloc e=>qX (zeroOf P e) e
 | .box e x=>rW e (Bz x)
 | .store t a x=>AAr (A5 P t) (LY P (.store t a x)) (Bz a) (Bz x)
 | .build t parts=>⟨X9 (rY P t parts.toList)⟩
 | .nilCheck x=>⟨X9 (AI1 x)⟩
 | .field t x i=>⟨X9 (AFW P t x i)⟩
 | .index t x i=>⟨X9 (AHc P t x i)⟩
 | .slice t x lo hi mx=>⟨mw (ANM P t x lo hi mx)⟩
 | .buildSlice t len parts=>⟨bn (AED P t len parts)⟩
 | .call c=>ru P c (.call c)
 |op=>⟨LY P op⟩
abbrev qO:=Ap→Nat→Tm→St→(Tm→St→AY)→DK→AY
structure Ie where
 run:qO
noncomputable def mh(s:Option Value→Tm→Tm)(d n:Nat)(t:Tm)(k:Tm→St→AY)(v:Value)(S:St):AY:=Bool.rec (motive:=fun _=>AY) none (k (s (some v) t) S) (Nat.blt d n)
noncomputable def AOy(s:Option Value→Tm→Tm)(d:Nat)(f:Hx)(ih:Ap)(n:Nat)(t:Tm)(S:St)(k:Tm→St→AY)(Ab:DK):AY:=f ih t S (mh s d n t k) Ab
def AE7(t:Tm)(k:Tm→St→AY)(_:Value)(S:St):AY:=k t S
def AOz(f:Hx)(ih:Ap)(_:Nat)(t:Tm)(S:St)(k:Tm→St→AY)(Ab:DK):AY:=f ih t S (AE7 t k) Ab
def PH(v:Option Value)(w:Bool):Bool:=match v with
 |some (.bool b)=>b==w
 |_=>false
noncomputable def stepG(g:Tm→Option Value)(w:Bool)(yes no:qO)(ih:Ap)(n:Nat)(t:Tm)(S:St)(k:Tm→St→AY)(Ab:DK):AY :=
 Bool.rec (motive:=fun _=>AY) (no ih n t S k Ab) (yes ih n t S k Ab) (PH (g t) w)
noncomputable def Pa(dst:Option Tmp)(f:Hx):Ie:=match dst with
 |none=>⟨AOz f⟩
 |some d=>match(Pm 8 d:SW Value 8)with
  |⟨s⟩=>⟨AOy s d f⟩
def Li(_:Ap)(_:Tm)(S:St)(ok:C6)(_:DK):AY:=ok undef S
noncomputable def tf(g:GW Value 8)(w:Bool)(y n:Ie):Ie:=match g,y,n with
 |⟨g⟩,⟨y⟩,⟨n⟩=>⟨stepG g w y n⟩
noncomputable def cI(dst:Option Tmp)(w:Eb):Ie:=match w with
 |⟨f⟩=>Pa dst f
noncomputable def dj(full:List Oper)(o:Oper):Ie:=match o.guard with
 |none=>cI o.dst (Jm P o.op)
 |some (j,w)=>match nth full j with
  |some oj=>match oj.dst with
   |some d=>tf (Ov 8 d) w (cI o.dst (Jm P o.op)) (Pa o.dst Li)
   |none=>Pa o.dst Li
  |none=>Pa o.dst Li
noncomputable def WH(full:List Oper)(l:List Oper):List Ie:=List.rec (motive:=fun _=>List Ie) [] (fun o _ ih=>dj P full o::ih) l
noncomputable def AO1(w:Ie)(ih:Ap)(n:Nat)(t:Tm)(S:St)(k:Tm→St→AY)(Ab:DK):AY:=Ie.rec (motive:=fun _=>AY) (fun f=>f ih n t S k Ab) w
def yc(n:Nat)(t:Tm)(df:List Deferred)(ch:List PanicEntry)(S:St):AY:=some (.panic ch,⟨n,t,df⟩,S)
noncomputable def YH(ih:Ap)(n:Nat)(df:List Deferred)(l:List Ie):Tm→St→AY :=
 List.rec (motive:=fun _=>Tm→St→AY) (fun t S=>some (.normal,⟨n,t,df⟩,S)) (fun c _ rest t S=>AO1 c ih n t S rest (yc n t df)) l
abbrev GU:=Nat×(St→AY→AY)
abbrev Tl:=Ap→Nat→List Deferred→Tm→St→List GU→(List GU→Tm→St→AY)→AY
structure Lo where
 run:Tl
noncomputable def AM7(v:Value)(k:AY)(w:Value)(_:St):AY:=Bool.rec (motive:=fun _=>AY) none k (CP 100000 v w)
def N'(_:List PanicEntry)(_:St):AY:=none
noncomputable def bd(f:Hx)(ih:Ap)(t:Tm)(v:Value)(S:St)(k:AY):AY:=f ih t S (AM7 v k) N'
noncomputable def Zu(P:Program)(c:DD)(S:St)(k:AY):AY:=Bool.rec (motive:=fun _=>AY) none k (DD.ok P S c)
noncomputable def V5(S:St)(k:AY)(l:List GU):AY:=List.rec (motive:=fun _=>AY) k (fun e _ ih=>e.2 S ih) l
def PO(AJ:Nat):List GU→List GU
 | []=>[]
 |e::r=>bif AJ.testBit e.1 then PO AJ r else e::PO AJ r
abbrev Vx:=Nat→Tm→Value→(Tm→AY)→AY
noncomputable def mg(s:Option Value→Tm→Tm)(d:Nat)(n:Nat)(t:Tm)(v:Value)(k:Tm→AY):AY:=Bool.rec (motive:=fun _=>AY) none (k (s (some v) t)) (Nat.blt d n)
def MU(_:Nat)(t:Tm)(_:Value)(k:Tm→AY):AY:=k t
noncomputable def G7(dst:Option Tmp):Vx:=match dst with
 |none=>MU
 |some d=>match(Pm 8 d:SW Value 8)with
  |⟨s⟩=>mg s d
def PY(p:Vx)(f:Hx)(ih:Ap)(n:Nat)(_:List Deferred)(t:Tm)(S:St)(l:List GU)(k:List GU→Tm→St→AY):AY:=f ih t S (fun v S'=>p n t v fun t'=>k l t' S') N'
noncomputable def AJR(i:Nat)(p:Vx)(f:Hx)(ih:Ap)(n:Nat)(_:List Deferred)(t:Tm)(S:St)(l:List GU)(k:List GU→Tm→St→AY):AY:=f ih t S (fun v S'=>p n t v fun t'=>k ((i,bd f ih t v)::l) t' S') N'
noncomputable def AJO(i:Nat)(p:Vx)(f:Hx)(ih:Ap)(n:Nat)(_:List Deferred)(t:Tm)(S:St)(l:List GU)(k:List GU→Tm→St→AY):AY :=
 f ih t S (fun v S'=>p n t v fun t'=>HA (Kx S' S.size) fun c=>Option.rec (motive:=fun _=>AY) (k ((i,Zu P c)::l) t' S') (fun _=>none) (Dm S S.size)) N'
noncomputable def AJQ(AJ:Nat)(p:Vx)(f:Hx)(ih:Ap)(n:Nat)(_:List Deferred)(t:Tm)(S:St)(l:List GU)(k:List GU→Tm→St→AY):AY :=
 f ih t S (fun v S'=>p n t v fun t'=>V5 S' (k (PO AJ l) t' S') (PO AJ l)) N'
noncomputable def AJP(g:Tm→Option Value)(w:Bool)(yes no:Tl)(ih:Ap)(n:Nat)(df:List Deferred)(t:Tm)(S:St)(l:List GU)(k:List GU→Tm→St→AY):AY :=
 Bool.rec (motive:=fun _=>AY) (no ih n df t S l k) (yes ih n df t S l k) (PH (g t) w)
noncomputable def Rt(AJ:Nat)(o:Oper)(i:Nat)(f:Hx):Tl:=match kindOf o.op with
 | .read=>bif looks o.op then AJR i (G7 o.dst) f else PY (G7 o.dst) f
 | .fresh=>AJO P i (G7 o.dst) f
 | .Fk=>AJQ AJ (G7 o.dst) f
noncomputable def yh(g:GW Value 8)(w:Bool)(y n:Tl):Lo:=match g with
 |⟨g⟩=>⟨AJP g w y n⟩
noncomputable def cH(full:List Oper)(AJ:Nat)(o:Oper)(i:Nat)(w:Eb):Lo:=match w with
 |⟨f⟩=>match o.guard with
  |none=>⟨Rt P AJ o i f⟩
  |some (j,w)=>match nth full j with
   |some oj=>match oj.dst with
    |some d=>yh (Ov 8 d) w (Rt P AJ o i f) (PY (G7 o.dst) Li)
    |none=>⟨PY (G7 o.dst) Li⟩
   |none=>⟨PY (G7 o.dst) Li⟩
noncomputable def WI(full:List Oper)(AJ:List Nat)(l:List (Oper×Nat)):List Lo :=
 List.rec (motive:=fun _=>List Lo) [] (fun x _ ih=>cH P full ((nth AJ x.2).getD 0) x.1 x.2 (Jm P x.1.op)::ih) l
noncomputable def AJS(w:Lo):Tl:=Lo.rec (motive:=fun _=>Tl) (fun f=>f) w
noncomputable def YJ(ih:Ap)(n:Nat)(df:List Deferred)(l:List Lo):List GU→Tm→St→AY :=
 List.rec (motive:=fun _=>List GU→Tm→St→AY) (fun _ t S=>some (.normal,⟨n,t,df⟩,S)) (fun c _ rest e t S=>AJS c ih n df t S e rest) l
structure Tj where
 run:Ap→Option Nat→Ca→St→AY
noncomputable def regionF(l:List Ie)(ih:Ap)(_:Option Nat)(a:Ca)(S:St):AY:=Ca.rec (motive:=fun _=>AY) (fun n t df=>YH ih n df l t S) a
noncomputable def AE5(l:List Lo)(ih:Ap)(_:Option Nat)(a:Ca)(S:St):AY:=Ca.rec (motive:=fun _=>AY) (fun n t df=>YJ ih n df l [] t S) a
def Zg(e:Exit)(_:Ap)(_:Option Nat)(a:Ca)(S:St):AY:=some (e,a,S)
def zn(y:Code)(ih:Ap)(ro:Option Nat)(r:AY):AY:=match r with
 |some (.normal,a',S')=>ih.exec ro y a' S'
 |r=>r
def AND(x y:Code)(ih:Ap)(ro:Option Nat)(a:Ca)(S:St):AY:=zn y ih ro (ih.exec ro x a S)
noncomputable def fT(x y:AY)(o:Option Bool):AY:=HA o fun b=>Bool.rec (motive:=fun _=>AY) y x b
noncomputable def AEx(g:Tm→Value)(x y:Code)(ih:Ap)(ro:Option Nat)(a:Ca)(S:St):AY:=fT (ih.exec ro x a S) (ih.exec ro y a S) (V7 (g a.t))
noncomputable def sI(e:HX)(x y:Code):Tj:=match e with
 |⟨g⟩=>⟨AEx g x y⟩
def AD7(id:Nat)(r:AY):AY:=match r with
 |some (.exit j,a',S')=>bif Nat.beq j id then some (.normal,a',S')else some (.exit j,a',S')
 |r=>r
def AD6(id:Nat)(c:Code)(ih:Ap)(ro:Option Nat)(a:Ca)(S:St):AY:=AD7 id (ih.exec ro c a S)
def AIT(c:Code)(ih:Ap)(ro:Option Nat)(a:Ca)(S:St):AY:=zn (.loop c) ih ro (ih.exec ro c a S)
def AE8(code:Code)(ih:Ap)(ro:Option Nat)(a:Ca)(S:St):AY:=Bx P ih ro code a S
def xz(_:Ap)(_:Option Nat)(_:Ca)(_:St):AY:=none
noncomputable def sX(full:List Oper)(o:Option (List Nat×List (Oper×Nat))):Tj:=match o with
 |some (AJ,pl)=>⟨AE5 (WI P full AJ pl)⟩
 |none=>⟨xz⟩
noncomputable def m7(ops:List Oper)(draw:Bool):Tj:=bif D' P ops then(bif draw then sX P ops (Rx ops)else⟨regionF (WH P ops ops)⟩)else⟨xz⟩
noncomputable def Zd(code:Code):Tj:=match code with
 | .skip=>⟨Zg .normal⟩
 | .label _=>⟨Zg .normal⟩
 | .exit id=>⟨Zg (.exit id)⟩
 | .ret=>⟨Zg .ret⟩
 | .region _ ops draw=>m7 P ops.toList draw
 | .seq x y=>⟨AND x y⟩
 | .cond c x y=>sI (Bz c) x y
 | .block id c=>⟨AD6 id c⟩
 | .loop c=>⟨AIT c⟩
 |code=>⟨AE8 P code⟩
noncomputable def sy(w:Tj)(ih:Ap)(ro:Option Nat)(a:Ca)(S:St):AY:=Tj.rec (motive:=fun _=>AY) (fun f=>f ih ro a S) w
noncomputable def fp(ih:Ap)(ro:Option Nat)(code:Code)(a:Ca)(S:St):AY:=sy (Zd P code) ih ro a S
inductive qA where
 |bad
 |ext
 |go (n:Nat) (c:Code) (rs:List ResultVar)
def ff(f:FuncId):qA:=match P.funcs[f]? with
 |some fn=>match fn.body with
  |some c=>bif fn.name== "runtime.NumGoroutine" then .bad else .go fn.ntmps c fn.results.toList
  |none=> .ext
 |none=> .bad
noncomputable def setArgs(i:Nat)(l:List Value):Tm→Tm:=List.rec (motive:=fun _=>Nat→Tm→Tm) (fun _ t=>t) (fun v _ ih i t=>ih (Nat.succ i) (eb (Pm 8 i) (some v) t)) l i
noncomputable def R1(t:Tm)(S:St):List ResultVar→Option (List Value)
 | []=>some []
 | .tmp x::r=>match R1 t S r with
  |some l=>some (NV t (.tmp x)::l)
  |none=>none
 | .cell x e::r=>match De P e (NV t (.tmp x)) S,R1 t S r with
  |some v,some l=>some (v::l)
  |_,_=>none
abbrev Lp:=Option (Ending×St)
def zO(S:St)(l:Option (List Value)):Lp:=match l with
 |some [v]=>some (.returned v,S)
 |some vs=>some (.returned (.tuple vs.toArray),S)
 |none=>none
noncomputable def nB(rs:List ResultVar)(t:Tm)(S:Option St):Lp:=Option.rec (motive:=fun _=>Lp) none (fun S=>zO S (R1 P t S rs)) S
def yd(ch:List PanicEntry)(S:Option St):Lp:=match S with
 |some S=>some (.panicked ch,S)
 |none=>none
noncomputable def AH6(rs:List ResultVar)(S:St)(e:Exit)(t:Tm)(df:List Deferred):Lp:=match e with
 | .normal=>nB P rs t (GS df S)
 | .ret=>nB P rs t (GS df S)
 | .panic ch=>yd ch (GS df S)
 |_=>none
noncomputable def wy(rs:List ResultVar)(r:AY):Lp:=match r with
 |some (e,⟨_,t,df⟩,S)=>AH6 P rs S e t df
 |none=>none
noncomputable def gj(ih:Ap)(n:Nat)(c:Code)(rs:List ResultVar)(args:List Value)(S:St):Lp :=
 bif Nat.blt 256 n then none else wy P rs (ih.exec none c ⟨n,setArgs 0 args (PT.nil 8),[]⟩ S)
def s9(r:Option (Value×St)):Lp:=match r with
 |some (v,S)=>some (.returned v,S)
 |none=>none
noncomputable def sf(K:BX)(ih:Ap)(f:FuncId)(args:List Value)(S:St)(w:qA):Lp:=match w with
 | .bad=>none
 | .ext=>s9 (K.ext f args S)
 | .go n c rs=>gj P ih (El n args.length) c rs args S
noncomputable def ZK(K:BX)(ih:Ap)(target:Target)(args:List Value)(S:St):Lp:=match target with
 | .fn (.func f) ⟨[]⟩=>match K.call f args S with
  |some v=>some (.returned v,S)
  |none=>bif K.defers f then Qm P ih f args S else sf P K ih f args S (ff P f)
 |t=>NR P K ih t args S
noncomputable def NY(K:BX)(n:Nat):Ap :=
 Nat.rec (motive:=fun _=>Ap) ⟨fun _ _ _ _=>none,fun _ _ _=>none⟩ (fun _ ih=>⟨fp P ih,ZK P K ih⟩) n
end Go.Cm

/-
  Signs as data.
-/
import Derived.Test.YtmfphenhpkgidaaGreatDoorSk0
import Derived.Test.YtmfphenhpkgidaaGreatDoorSy1

import Derived.IntWalk
import Derived.KernelRfl
import Derived.Test.YtmfphenhpkgidaaGreatDoorSy2








namespace Go.Proofs.YtmfphenhpkgidaaGreatDoor
open Go.Cm Go
set_option maxRecDepth 100000
variable{S:St}
def rp:FuncId→List Value→St→Option Value:=fun f a _=>match a with
 | []=>bif Nat.beq f 17 then some (.bool true)else none
 |_=>none
abbrev KK:BX:=kk rp
structure Sg where
 kind:Int
 value:Int
 place:Int
 acc:Int
 color:Bool
 BJ:Int
 Co:Bool
 last:Bool
 mx:Int
 md:Int
 tm:Int
 pr:Int
 Fa:Bool
 n:Int
 d:Int
 step:Int
 line:Int
instance:DecidableEq Sg:=fun a b=>decidable_of_iff (a.kind=b.kind∧a.value=b.value∧a.place=b.place∧a.acc=b.acc∧a.color=b.color∧a.BJ=b.BJ∧a.Co=b.Co∧a.last=b.last∧a.mx=b.mx∧a.md=b.md∧a.tm=b.tm∧a.pr=b.pr∧a.Fa=b.Fa∧a.n=b.n∧a.d=b.d∧a.step=b.step∧a.line=b.line) ⟨fun h=>by cases a;cases b;rw[Sg.mk.injEq];exact h,fun h=>by subst h;simp⟩
def Sg.cells(s:Sg):List Value:=[.int .i64 s.kind,.int .i64 s.value,.int .i64 s.place,.int .i64 s.acc,.bool s.color,.int .i64 s.BJ,.bool s.Co,.bool s.last,.int .i64 s.mx,.int .i64 s.md,.int .i64 s.tm,.int .i64 s.pr,.bool s.Fa,.int .i64 s.n,.int .i64 s.d,.int .i64 s.step,.int .i64 s.line]
def Sg.v(s:Sg):Value:=AX s.cells
def oh:List Value:=[.bool false,.bool false,.bool false,.bool false,.bool false,.bool false,.bool false,.bool false,.bool false,.bool false,.bool false,.bool false,.bool true,.bool true,.bool true,.bool true,.bool false,.bool false,.bool false,.bool false,.bool false,.bool false,.bool false,.bool false,.bool true,.bool false,.bool false,.bool false,.bool false,.bool false,.bool false,.bool false,.bool false,.bool false,.bool false,.bool false,.bool false,.bool false,.bool false,.bool false,.bool false,.bool false,.bool false,.bool false,.bool false,.bool false,.bool false,.bool false,.bool false,.bool true,.bool true,.bool true,.bool true,.bool true,.bool true,.bool false,.bool false,.bool false,.bool false,.bool false,.bool false,.bool false,.bool false,.bool false,.bool false,.bool false,.bool false,.bool true,.bool true,.bool false,.bool false,.bool false,.bool false,.bool false,.bool false,.bool false,.bool false,.bool false,.bool false,.bool false,.bool false,.bool true,.bool true,.bool false,.bool false,.bool false,.bool false,.bool false,.bool false,.bool false,.bool false,.bool false,.bool false,.bool false,.bool false,.bool true,.bool false,.bool false,.bool false,.bool false,.bool false,.bool false,.bool false,.bool false,.bool false,.bool true,.bool false,.bool false,.bool false,.bool false,.bool false,.bool false,.bool false,.bool false,.bool false,.bool false,.bool false,.bool false,.bool false,.bool false,.bool false,.bool false,.bool false,.bool false,.bool false,.bool false,.bool false,.bool false,.bool false,.bool true,.bool false,.bool false,.bool false,.bool false,.bool false,.bool false,.bool false,.bool false,.bool false,.bool false,.bool false,.bool false,.bool false,.bool false,.bool false,.bool false,.bool false,.bool false,.bool false,.bool false,.bool false,.bool false,.bool false,.bool false,.bool false,.bool false]
def ubn(k i:Nat):Bool:=match nth oh (k*12+i)with
 |some (.bool b)=>b
 |_=>false
def ub(k:Int)(i:Nat):Bool:=ubn k.toNat i
theorem ASQ{k:Int}(h1:1≤k)(h2:k≤12):takeN 12 (CH (0+k.toNat*12) oh)=some [.bool (ub k 0),.bool (ub k 1),.bool (ub k 2),.bool (ub k 3),.bool (ub k 4),.bool (ub k 5),.bool (ub k 6),.bool (ub k 7),.bool (ub k 8),.bool (ub k 9),.bool (ub k 10),.bool (ub k 11)]:=by
 obtain rfl|rfl|rfl|rfl|rfl|rfl|rfl|rfl|rfl|rfl|rfl|rfl:k=1∨k=2∨k=3∨k=4∨k=5∨k=6∨k=7∨k=8∨k=9∨k=10∨k=11∨k=12:=by omega
 all_goals rfl
def Gl(S:St):Prop:=0<S.size∧S.get 0=some (.cells oh 0 false false [])
theorem Gl.AD{S T:St}(h:Gl S)(k:AL S T):Gl T:=⟨Nat.lt_of_lt_of_le h.1 k.1,(k.2 0 h.1).trans h.2⟩
theorem V9(s:Sg):∀v,v∈s.cells→Atom v:=by
 unfold Sg.cells
 repeat first|exact GG|refine BS (BK _ _) ?_|refine BS (GF _) ?_
theorem Ag:(∀b:Bool,(b&&true)=b)∧(∀b:Bool,(true&&b)=b)∧(∀b:Bool,(b&&false)=false)∧(∀b:Bool,(false&&b)=false)∧(∀b:Bool,(b||true)=true)∧(∀b:Bool,(true||b)=true)∧(∀b:Bool,(b||false)=b)∧(∀b:Bool,(false||b)=b)∧(∀b:Bool,(!!b)=b)∧(!true)=false∧(!false)=true :=
 ⟨Bool.and_true,Bool.true_and,Bool.and_false,Bool.false_and,Bool.or_true,Bool.true_or,Bool.or_false,Bool.false_or,Bool.not_not,rfl,rfl⟩
theorem sq(d:Nat)(a b c e a' b' c' e':Int):Cl Tryz.prog (d+2) 51 (AX [.int .i64 a,.int .i64 b,.int .i64 c,.int .i64 e]) (AX [.int .i64 a',.int .i64 b',.int .i64 c',.int .i64 e'])=some ((a==a')&&((b==b')&&((c==c')&&((e==e')&&true)))) :=
 WU Tryz.underlying51 (by kernel_rfl) (FR (by kernel_rfl) (Cw (by kernel_rfl) rfl) (Cw (by kernel_rfl) rfl) (eq_int Tryz.underlying3) (FR (by kernel_rfl) (Cw (by kernel_rfl) rfl) (Cw (by kernel_rfl) rfl) (eq_int Tryz.underlying3) (FR (by kernel_rfl) (Cw (by kernel_rfl) rfl) (Cw (by kernel_rfl) rfl) (eq_int Tryz.underlying3) (FR (by kernel_rfl) (Cw (by kernel_rfl) rfl) (Cw (by kernel_rfl) rfl) (eq_int Tryz.underlying3) rfl))))
theorem AFH(d:Nat)(a b a' b':Int):Cl Tryz.prog (d+2) 53 (AX [.int .i64 a,.int .i64 b]) (AX [.int .i64 a',.int .i64 b'])=some ((a==a')&&((b==b')&&true)) :=
 WU Tryz.underlying53 (by kernel_rfl) (FR (by kernel_rfl) (Cw (by kernel_rfl) rfl) (Cw (by kernel_rfl) rfl) (eq_int Tryz.underlying3) (FR (by kernel_rfl) (Cw (by kernel_rfl) rfl) (Cw (by kernel_rfl) rfl) (eq_int Tryz.underlying3) rfl))
theorem WT(s r:Sg):Cl Tryz.prog E' 55 s.v r.v=some (decide (s=r)):=by
 have h:Cl Tryz.prog 40 55 (AX s.cells) (AX r.cells)=_:=WU Tryz.underlying55 (by kernel_rfl) (FR (by kernel_rfl) (Cw (by kernel_rfl) rfl) (Cw (by kernel_rfl) rfl) (eq_int Tryz.underlying3) (FR (by kernel_rfl) (Cw (by kernel_rfl) rfl) (Cw (by kernel_rfl) rfl) (eq_int Tryz.underlying3) (FR (by kernel_rfl) (Cw (by kernel_rfl) rfl) (Cw (by kernel_rfl) rfl) (eq_int Tryz.underlying3) (FR (by kernel_rfl) (Cw (by kernel_rfl) rfl) (Cw (by kernel_rfl) rfl) (eq_int Tryz.underlying3) (FR (by kernel_rfl) (Cw (by kernel_rfl) rfl) (Cw (by kernel_rfl) rfl) (Zl Tryz.underlying4) (FR (by kernel_rfl) (Cw (by kernel_rfl) rfl) (Cw (by kernel_rfl) rfl) (eq_int Tryz.underlying3) (FR (by kernel_rfl) (Cw (by kernel_rfl) rfl) (Cw (by kernel_rfl) rfl) (Zl Tryz.underlying4) (FR (by kernel_rfl) (Cw (by kernel_rfl) rfl) (Cw (by kernel_rfl) rfl) (Zl Tryz.underlying4) (FR (by kernel_rfl) (cF (z:=4) (by kernel_rfl) (by kernel_rfl) rfl) (cF (z:=4) (by kernel_rfl) (by kernel_rfl) rfl) (sq ..) (FR (by kernel_rfl) (Cw (by kernel_rfl) rfl) (Cw (by kernel_rfl) rfl) (Zl Tryz.underlying4) (FR (by kernel_rfl) (Cw (by kernel_rfl) rfl) (Cw (by kernel_rfl) rfl) (eq_int Tryz.underlying3) (FR (by kernel_rfl) (Cw (by kernel_rfl) rfl) (Cw (by kernel_rfl) rfl) (eq_int Tryz.underlying3) (FR (by kernel_rfl) (cF (z:=2) (by kernel_rfl) (by kernel_rfl) rfl) (cF (z:=2) (by kernel_rfl) (by kernel_rfl) rfl) (AFH ..) rfl)))))))))))))
 refine h.trans (congrArg some ?_)
 cases s;cases r
 simp only[Sg.mk.injEq]
 rw[Bool.eq_iff_iff]
 simp[and_assoc]
theorem Uy(xo yo:Operand)(s r:Sg):Fy Tryz.prog .neq 55 xo yo s.v r.v=some (.bool (!decide (s=r))):=ADR (by kernel_rfl) (WT s r)
theorem sr(xo yo:Operand)(s r:Sg):Fy Tryz.prog .eql 55 xo yo s.v r.v=some (.bool (decide (s=r))):=e7 (by kernel_rfl) (WT s r)
theorem i6{x:Int}(h: -9223372036854775808≤x∧x≤9223372036854775807):some (Value.int .i64 (IntKind.i64.wrap x))=some (.int .i64 x):=congrArg some (congrArg (Value.int .i64) (IntWalk.i64_in x h))
theorem Oc:BU Tryz.prog 24=true:=by kernel_rfl
theorem J3:BU Tryz.prog 44=true:=by kernel_rfl
theorem Qd:BU Tryz.prog 49=true:=by kernel_rfl
theorem AC6:BU Tryz.prog 51=true:=by kernel_rfl
theorem AC8:BU Tryz.prog 53=true:=by kernel_rfl
theorem EP:BU Tryz.prog 55=true:=by kernel_rfl
theorem ACE:BU Tryz.prog 106=true:=by kernel_rfl
theorem ACP:BU Tryz.prog 163=true:=by kernel_rfl
end Go.Proofs.YtmfphenhpkgidaaGreatDoor
namespace Go.Proofs.YtmfphenhpkgidaaGreatDoor
open Go.Cm Go
set_option maxRecDepth 100000
variable{S:St}
theorem sN{P:Program}{n:Nat}{e:DE}{S':St}{b:Nat}{cs:List Value}{t:TypeId}{r:Bool}(hf:e.fr=some (b,cs,t,r))(hg:S'.get b=some (.cells cs t r true []))(hl:cs.length<100000:=by simp)(ha:∀v,v∈cs→Atom v:=by repeat (first|exact GG|refine BS (BK _ _) ?_|refine BS (GF _) ?_|refine BS (Y9 _ _ _) ?_|refine BS (V8 _) ?_)){X:Prop}:X→HY P n S' e:=AAp hf hg (VJ _ _ hl ha)
theorem sG{l:List Value}(ha:∀v,v∈l→Atom v:=by repeat (first|exact GG|refine BS (BK _ _) ?_|refine BS (GF _) ?_|refine BS (Y9 _ _ _) ?_|refine BS (V8 _) ?_))(hn:Nat.blt l.length 90000=true:=by rfl):CP 100000 (AX l) (AX l)=true:=GR hn ha
theorem sQ{v:Value}(h:Atom v:=by first|exact BK _ _|exact GF _|exact Y9 _ _ _|exact V8 _):CP 100000 v v=true:=Dt h
theorem sZ{e:DE}{m:Nat}(h:m.testBit e.j=true:=by dsimp only;decide+kernel){X:Prop}:m.testBit e.j=false→X:=ON h
section
variable{P:Program}{S:St}
theorem l1{t:TypeId}{b o:Nat}{c:List Value}{e:TypeId}{row own:Bool}{kin:List Nat}{v:Value}(hb:S.get b=some (.cells c e row own kin))(hv:nth c o=some v)(ha:Fv P t=some false:=by kernel_rfl):De P t (.pointer (some ⟨b,o,none⟩)) S=some v:=C4 ha hb hv
theorem lN{t:TypeId}{b o z:Nat}{c l:List Value}{e:TypeId}{row own:Bool}{kin:List Nat}(hb:S.get b=some (.cells c e row own kin))(hv:takeN z (CH o c)=some l)(ha:Fv P t=some true:=by kernel_rfl)(hz:A5 P t=some z:=by kernel_rfl):De P t (.pointer (some ⟨b,o,none⟩)) S=some (AX l):=CD ha hz hb hv
theorem l2{t:TypeId}{b o:Nat}{e:TypeId}{c:List Value}{v:Value}(hb:DW S b e c)(hv:nth c o=some v)(ha:Fv P t=some false:=by kernel_rfl):De P t (ptrTo b o) S=some v:=GN ha hb hv
end
theorem sB{L L':Env}(h:Kq L L':=by repeat (first|exact BN _|refine BO  rfl ?_)):Kq L L':=h
theorem yD{α:Type}:∀{l:List α} {i:Nat} {x:α},nth l i=some x→i<l.length
 |_::_,0,_,_=>by simp
 |_::l,i+1,x,h=>by have:=yD (l:=l) (i:=i) (x:=x) h;simp only[List.length_cons];omega
theorem yE{α β:Type}(f:α→β):∀{l:List α} {i:Nat} {x:α},nth l i=some x→nth (l.map f) i=some (f x)
 |_::_,0,_,h=>by cases h;rfl
 |_::l,i+1,x,h=>yE f (l:=l) (i:=i) (x:=x) h
theorem HU{z o j:Nat}{c l:List Value}{v:Value}(h:takeN z (CH o c)=some l)(hj:nth l j=some v):nth c (o+j)=some v:=by
 obtain⟨_,_,e⟩:=IW _ _ _ h
 subst e
 have:=Xi hj
 rw[Ha]at this
 rw[CE]at this ⊢
 rw[List.getElem?_drop]at this
 exact this
section
variable{α:Type}{e:TypeId}{z:Nat}{f:α→List Value}{S S':St}{v:Value}{C:List α}{a:Option Addr}{n cap:Nat}
def A0(e:TypeId)(z:Nat)(f:α→List Value)(S:St)(v:Value)(C:List α):Prop:=DL S e z v (C.map f)
theorem A0.move(h:RK S S')(hs:A0 e z f S v C):A0 e z f S' v C:=DL.move h hs
theorem A0.is(h:A0 e z f S v C):∃a cap,v= .slice a C.length cap:=by
 obtain⟨a,cap,e⟩:=DL.is h
 exact⟨a,cap,by simpa using e⟩
theorem A0.len(h:A0 e z f S (.slice a n cap) C):n=C.length:=by
 obtain⟨a,cap,e⟩:=A0.is h
 injection e
theorem A0.elem(h:A0 e z f S (.slice a n cap) C){k:Nat}{x:α}(hk:nth C k=some x) :
  ∃b o cs,a=some ⟨b,o,none⟩∧n=C.length∧DW S b e cs∧takeN z (CH (o+k*z) cs)=some (f x):=by
 obtain⟨b,o,cs,h1,h2,h3,h4⟩:=DL.elem h (yE f hk)
 exact⟨b,o,cs,h1,by simpa using h2,h3,h4⟩
theorem A0.nil:A0 e z f S (.slice none 0 0) []:= .inl ⟨rfl,.inl rfl⟩
theorem yH{f:α→List Value}:∀{C:List α} {k:Nat} {y:List Value},nth (C.map f) k=some y→∃x,nth C k=some x∧y=f x
 | [],_,_,h=>by cases h
 |x::_,0,y,h=>by cases h;exact⟨x,rfl,rfl⟩
 |_::C,k+1,y,h=>yH (C:=C) (k:=k) h
theorem sY{β:Type}:∀(n m:Nat) (l:List β),CH (n+m) l=CH m (CH n l):=fun n m l=>by
 rw[Ha,Ha,Ha,List.drop_drop]
theorem tO(hz:∀x,(f x).length=z):∀{C:List α} {k:Nat} {x:α},nth C k=some x→takeN z (CH (0+k*z) ((C.map f).flatten))=some (f x)
 | [],_,_,h=>by cases h
 |y::C,0,x,h=>by
  cases h
  rw[show 0+0*z=0 by omega]
  show takeN z (f y++_)=_
  rw[←hz y,Td _ _ (by simp),List.take_left]
 |y::C,k+1,x,h=>by
  rw[show 0+(k+1)*z=z+(0+k*z) by rw[Nat.add_mul];omega,sY]
  rw[show CH z ((List.map f (y::C)).flatten)=(C.map f).flatten by
   rw[Ha]
   show(f y++_).drop z=_
   rw[←hz y,List.drop_left]]
  exact tO hz (C:=C) (k:=k) h
theorem HF(hz:∀x,(f x).length=z):∀C:List α,((C.map f).flatten).length=C.length*z
 | []=>by simp
 |x::C=>by
  show(f x++_).length=_
  rw[DS,hz x,HF hz C,List.length_cons,Nat.add_mul]
  omega
theorem A0.row{B:Nat}(hz:∀x,(f x).length=z)(h:DW S B e ((C.map f).flatten))(hn:n=C.length):A0 e z f S (.slice (some ⟨B,0,none⟩) n n) C:=by
 subst hn
 refine .inr ⟨B,0,C.length,_,by simp,by simp,h,fun k y hk=>?_⟩
 obtain⟨x,hx,rfl⟩:=yH hk
 exact tO hz hx
def Hc(e:TypeId)(z:Nat)(f:α→List Value)(v:Value)(C:List α):Gr:=⟨v,e,z,(C.map f).flatten,C.length⟩
theorem Am.ls{S0:St}(hz:∀x,(f x).length=z)(h:Am S0 S (Hc e z f v C)):A0 e z f S v C:=by
 rcases Am.row h with ⟨h1,h2,h3⟩|⟨b,h1,h2⟩
 ·have h3:C.length=0:=h3
  have h1:v= .slice none 0 0:=h1
  have:C= []:=List.length_eq_zero_iff.1 h3
  subst this;subst h1
  exact A0.nil
 have h1:v= .slice (some ⟨b,0,none⟩) C.length C.length:=h1
 subst h1
 exact A0.row hz h2 rfl
theorem tM(x:α):((C++[x]).map f).flatten=(C.map f).flatten++f x:=by simp
end
theorem AHa{P:Program}{t e:TypeId}{a:Option Addr}{b o len cap z:Nat}{k:IntKind}{i:Int}(ha:a=some ⟨b,o,none⟩)(hu:P.underlying t=some (.slice e))(hz:A5 P e=some z)(hi:0≤i∧i<len) :
  G5 P t (.slice a len cap) (.int k i)=some (ptrTo b (o+i.toNat*z)):=by
 subst ha
 exact F3 hu hz hi
theorem Cj{S:St}{b o n cap z:Nat}{e:TypeId}{c new:List Value}(h:DW S b e c)(hn:takeN (n*z) (CH o c)=some new):EN S z n (.slice (some ⟨b,o,none⟩) n cap)=some new:=by
 obtain⟨_,own,kin,hg⟩:=h
 show MW S b o (n*z)=_
 unfold MW
 rw[hg]
 exact hn
theorem Am.C5{S0 S:St}{g:Gr}(h:Am S0 S g):∃a,g.v= .slice a g.n g.n:=by
 rcases Am.row h with ⟨h1,_,h3⟩|⟨b,h1,_⟩
 ·exact⟨none,by rw[h1,h3]⟩
 exact⟨_,h1⟩
theorem oL{P:Program}{n:Nat}{S':St}{m m2:Nat}:∀{E:List DE},FP P n S' m E→FP P n S' m (left m2 E)
 | [],_=>trivial
 |e::r,h=>by
  unfold left
  cases m2.testBit e.j with
  |true=>exact oL h.2
  |false=>exact⟨h.1,oL h.2⟩
theorem Im{α:Type}{e:TypeId}{z:Nat}{f:α→List Value}{a:Option Addr}{C:List α}{x:α}:Hc e z f (.slice a (C++[x]).length (C++[x]).length) (C++[x])=⟨.slice a (C.length+1) (C.length+1),e,z,(C.map f).flatten++f x,C.length+1⟩:=by
 unfold Hc
 rw[tM,DS]
 rfl
theorem Te{z w o j:Nat}{c l l2:List Value}(h:takeN z (CH o c)=some l)(hj:takeN w (CH j l)=some l2):takeN w (CH (o+j) c)=some l2:=by
 obtain⟨_,h1,e⟩:=IW _ _ _ h
 obtain⟨_,h2,e2⟩:=IW _ _ _ hj
 subst e
 rw[sY]
 generalize CH o c=X at *
 rw[Ha]at h2 e2 ⊢
 rw[List.drop_take]at e2 h2
 have h3:w≤z-j:=by rw[List.length_take]at h2;omega
 rw[List.take_take,Nat.min_eq_left h3]at e2
 rw[Td _ _ (by rw[List.length_take]at h2;omega),e2]
section
variable{P:Program}{e t:TypeId}{z:Nat}{S S1:St}{a:Option Addr}{n cap p q:Nat}{lo hi:Option Value}
theorem DL.part{C:List (List Value)}(h:DL S e z (.slice a n cap) C)(hk:RK S S1)(hu:P.underlying t=some (.slice e))(hz:A5 P e=some z)(vB:p≤q)(hq:q≤C.length)(hb:C.length≤cap→n=C.length→H0 n cap lo hi none=some (p,q,cap)) :
  ∃a2 c2,Fq P t (.slice a n cap) lo hi none S1=some (.slice a2 (q-p) c2)∧DL S e z (.slice a2 (q-p) c2) ((C.take q).drop p):=by
 rcases h with ⟨h1,h2⟩|⟨b,o,WG,cs,e1,MH,hr,h3⟩
 ·subst h1
  have hq0:q=0:=by simpa using hq
  have LD:p=0:=by omega
  subst hq0;subst LD
  rcases h2 with h2|⟨b,o,k,h2⟩
  ·cases h2
   refine⟨none,0,?_,.inl ⟨rfl,.inl rfl⟩⟩
   unfold Fq
   simp only[hu,hz,hb (Nat.zero_le _) rfl]
  cases h2
  refine⟨some ⟨b,o,some k⟩,0,?_,.inl ⟨rfl,.inr ⟨b,o,k,rfl⟩⟩⟩
  unfold Fq
  simp only[hu,hz,hb (Nat.zero_le _) rfl]
  rfl
 cases e1
 obtain⟨_,own,kin,hg⟩:=hk.2 _ _ _ hr
 have hl:((C.take q).drop p).length=q-p:=by rw[List.length_drop,List.length_take];omega
 refine⟨some ⟨b,o+p*z,none⟩,cap-p,?_,.inr ⟨b,o+p*z,cap-p,cs,by rw[hl],AA,hr,fun j y hy=>?_⟩⟩
 ·unfold Fq
  have hrs:I8 P S1 b z=true:=by
   unfold I8
   rw[hg]
   simp only[hz]
   exact IN _
  simp only[hu,hz,hb MH rfl,hrs,cond_true,Option.isSome_none,Bool.false_and,cond_false]
 have hj:j<q-p:=by have:=yD hy;omega
 have:nth C (p+j)=some y:=by
  rw[CE]at hy ⊢
  rw[List.getElem?_drop,List.getElem?_take]at hy
  rw[if_pos AA]at hy
  exact hy
 have h4:=h3 (p+j) y this
 rw[show o+p*z+j*z=o+(p+j)*z by rw[Nat.add_mul];omega]
 exact h4
theorem AD8{k:Nat}(h1:k≤cap):H0 n cap none (some (.int .i64 (k:Int))) none=some (0,k,cap):=by
 unfold H0 Jt
 simp only
 rw[if_pos ⟨AA,AA⟩]
 rfl
theorem AD9{k:Nat}(h1:k≤n)(_:n≤cap):H0 n cap (some (.int .i64 (k:Int))) none none=some (k,n,cap):=by
 unfold H0 Jt
 simp only
 rw[if_pos ⟨AA,AA⟩]
 rfl
variable{α:Type}{f:α→List Value}{C:List α}{k:Nat}
theorem A0.upto(h:A0 e z f S (.slice a n cap) C)(hk:RK S S1)(hu:P.underlying t=some (.slice e))(hz:A5 P e=some z)(RD:k≤C.length) :
  ∃a2 c2,Fq P t (.slice a n cap) none (some (.int .i64 (k:Int))) none S1=some (.slice a2 (C.take k).length c2)∧A0 e z f S (.slice a2 (C.take k).length c2) (C.take k):=by
 obtain⟨a2,c2,h1,h2⟩:=DL.part (p:=0) (q:=k) h hk hu hz (Nat.zero_le _) (by rw[D1];exact RD) (fun hc _=>AD8 (by rw[D1]at hc;omega))
 rw[List.drop_zero,←List.map_take]at h2
 have hl:(C.take k).length=k-0:=by rw[List.length_take];omega
 rw[hl]
 exact⟨a2,c2,h1,h2⟩
theorem A0.rest(h:A0 e z f S (.slice a n cap) C)(hk:RK S S1)(hu:P.underlying t=some (.slice e))(hz:A5 P e=some z)(RD:k≤C.length) :
  ∃a2 c2,Fq P t (.slice a n cap) (some (.int .i64 (k:Int))) none none S1=some (.slice a2 (C.drop k).length c2)∧A0 e z f S (.slice a2 (C.drop k).length c2) (C.drop k):=by
 obtain⟨a2,c2,h1,h2⟩:=DL.part (lo:=some (.int .i64 (k:Int))) (hi:=none) (p:=k) (q:=C.length) h hk hu hz RD (by rw[D1];exact Nat.le_refl _) (fun hc hn=>by rw[D1]at hc hn;rw[AD9 AA AA,hn])
 rw[List.take_of_length_le (by rw[D1];exact Nat.le_refl _),←List.map_drop]at h2
 have hl:(C.drop k).length=C.length-k:=List.length_drop
 rw[hl]
 exact⟨a2,c2,h1,h2⟩
theorem A0.cells(h:A0 e z f S (.slice a C.length cap) C):EN S z C.length (.slice a C.length cap)=some ((C.map f).flatten):=by
 have h2:=DL.cells h
 rw[←h2]
theorem Zt{f:α→List Value}(h:∀x,(f x).all D9=true):∀C:List α,((C.map f).flatten).all D9=true
 | []=>rfl
 |x::C=>by simp only[List.map_cons,List.flatten_cons,List.all_append,h x,Zt h C,Bool.and_self]
end
section
variable{P:Program}{K:BX}{n:Nat}{ro:Option Nat}{L:Env}{S S0:St}{Q:CV}{ops:List Oper}{d:Nat}{o:Oper}{Ts:List St}{l:List (Nat×AF)}{gs:List Gr}{AJ:List Nat}{pl:List (Oper×Nat)}{q j:Nat}{E:List DE}
end
structure Ti where
 n:Int
 d:Int
instance:DecidableEq Ti:=fun a b=>decidable_of_iff (a.n=b.n∧a.d=b.d) ⟨fun h=>by cases a;cases b;rw[Ti.mk.injEq];exact h,fun h=>by subst h;simp⟩
def Ti.cells(t:Ti):List Value:=[.int .i64 t.n,.int .i64 t.d]
def Ti.v(t:Ti):Value:=AX t.cells
theorem AFJ(s r:Ti):Cl Tryz.prog E' 103 s.v r.v=some (decide (s=r)):=by
 have h:Cl Tryz.prog 40 103 (AX s.cells) (AX r.cells)=_:=WU Tryz.underlying103 AB (FR AB (Cw AB rfl) (Cw AB rfl) (eq_int Tryz.underlying3) (FR AB (Cw AB rfl) (Cw AB rfl) (eq_int Tryz.underlying3) rfl))
 refine h.trans (congrArg some ?_)
 cases s;cases r
 simp only[Ti.mk.injEq]
 rw[Bool.eq_iff_iff]
 simp
theorem AHn(xo yo:Operand)(s r:Ti):Fy Tryz.prog .eql 103 xo yo s.v r.v=some (.bool (decide (s=r))):=e7 AB (AFJ s r)
abbrev eZ:=A0 103 2 Ti.cells
abbrev CW:=A0 55 17 Sg.cells
def ic(k:Int):List Value:=[.int .i64 k]
abbrev CZ:=A0 3 1 ic
theorem wA{P:Program}{t:TypeId}{xo yo:Operand}{a b:Int}:Fy P .add t xo yo (.int .i64 a) (.int .i64 b)=some (.int .i64 (IntKind.i64.wrap (a+b))):=rfl
theorem wS{P:Program}{t:TypeId}{xo yo:Operand}{a b:Int}:Fy P .sub t xo yo (.int .i64 a) (.int .i64 b)=some (.int .i64 (IntKind.i64.wrap (a-b))):=rfl
theorem wM{P:Program}{t:TypeId}{xo yo:Operand}{a b:Int}:Fy P .mul t xo yo (.int .i64 a) (.int .i64 b)=some (.int .i64 (IntKind.i64.wrap (a*b))):=rfl
theorem az7:BU Tryz.prog 7=true:=by kernel_rfl
theorem az8:BU Tryz.prog 8=true:=by kernel_rfl
theorem ACJ:BU Tryz.prog 13=true:=by kernel_rfl
theorem ACN:BU Tryz.prog 14=true:=by kernel_rfl
theorem ACS:BU Tryz.prog 18=true:=by kernel_rfl
theorem ACT:BU Tryz.prog 19=true:=by kernel_rfl
theorem ACZ:BU Tryz.prog 23=true:=by kernel_rfl
theorem AC1:BU Tryz.prog 43=true:=by kernel_rfl
theorem AC4:BU Tryz.prog 48=true:=by kernel_rfl
theorem AC5:BU Tryz.prog 50=true:=by kernel_rfl
theorem AC7:BU Tryz.prog 52=true:=by kernel_rfl
theorem AC9:BU Tryz.prog 54=true:=by kernel_rfl
theorem AC':BU Tryz.prog 79=true:=by kernel_rfl
theorem ADA:BU Tryz.prog 80=true:=by kernel_rfl
theorem ACB:BU Tryz.prog 102=true:=by kernel_rfl
theorem ACC:BU Tryz.prog 103=true:=by kernel_rfl
theorem ACD:BU Tryz.prog 105=true:=by kernel_rfl
theorem ACF:BU Tryz.prog 117=true:=by kernel_rfl
theorem ACG:BU Tryz.prog 118=true:=by kernel_rfl
theorem ACH:BU Tryz.prog 119=true:=by kernel_rfl
theorem ACI:BU Tryz.prog 120=true:=by kernel_rfl
theorem ACK:BU Tryz.prog 134=true:=by kernel_rfl
theorem ACL:BU Tryz.prog 135=true:=by kernel_rfl
theorem ACO:BU Tryz.prog 162=true:=by kernel_rfl
theorem ACQ:BU Tryz.prog 174=true:=by kernel_rfl
theorem ACR:BU Tryz.prog 175=true:=by kernel_rfl
theorem ACU:BU Tryz.prog 211=true:=by kernel_rfl
theorem ACV:BU Tryz.prog 212=true:=by kernel_rfl
theorem ACW:BU Tryz.prog 227=true:=by kernel_rfl
theorem ACX:BU Tryz.prog 228=true:=by kernel_rfl
theorem ACY:BU Tryz.prog 229=true:=by kernel_rfl
theorem ACa:BU Tryz.prog 230=true:=by kernel_rfl
theorem ACb:BU Tryz.prog 235=true:=by kernel_rfl
theorem ACc:BU Tryz.prog 236=true:=by kernel_rfl
theorem ACd:BU Tryz.prog 245=true:=by kernel_rfl
theorem ACe:BU Tryz.prog 246=true:=by kernel_rfl
theorem ACf:BU Tryz.prog 265=true:=by kernel_rfl
theorem ACg:BU Tryz.prog 266=true:=by kernel_rfl
theorem ACh:BU Tryz.prog 278=true:=by kernel_rfl
theorem ACi:BU Tryz.prog 279=true:=by kernel_rfl
theorem ACj:BU Tryz.prog 310=true:=by kernel_rfl
theorem ACk:BU Tryz.prog 311=true:=by kernel_rfl
theorem ACl:BU Tryz.prog 324=true:=by kernel_rfl
theorem ACm:BU Tryz.prog 325=true:=by kernel_rfl
theorem ACn:BU Tryz.prog 327=true:=by kernel_rfl
theorem ACo:BU Tryz.prog 328=true:=by kernel_rfl
theorem ACp:BU Tryz.prog 333=true:=by kernel_rfl
theorem ACq:BU Tryz.prog 334=true:=by kernel_rfl
theorem ACr:BU Tryz.prog 354=true:=by kernel_rfl
theorem ACs:BU Tryz.prog 355=true:=by kernel_rfl
theorem ACt:BU Tryz.prog 357=true:=by kernel_rfl
theorem ACu:BU Tryz.prog 358=true:=by kernel_rfl
theorem ACv:BU Tryz.prog 364=true:=by kernel_rfl
theorem ACw:BU Tryz.prog 365=true:=by kernel_rfl
theorem ACx:BU Tryz.prog 391=true:=by kernel_rfl
theorem ACy:BU Tryz.prog 392=true:=by kernel_rfl
theorem ACz:BU Tryz.prog 425=true:=by kernel_rfl
theorem AC0:BU Tryz.prog 426=true:=by kernel_rfl
theorem AC2:BU Tryz.prog 436=true:=by kernel_rfl
theorem AC3:BU Tryz.prog 437=true:=by kernel_rfl
def KT{α:Type}:List (Nat×α)→Nat→Option α
 | [],_=>none
 |(k,a)::r,t=>bif Nat.beq k t then some a else KT r t
theorem Ur{α:Type}:∀{l:List (Nat×α)} {t:Nat} {a:α},KT l t=some a→(t,a)∈l
 |(k,b)::r,t,a,h=>by
  rw[KT]at h
  cases hb:Nat.beq k t with
  |true=>rw[hb]at h;cases h;rw[Bc hb];exact Al
  |false=>rw[hb]at h;exact BQ (Ur h)
theorem ks{α:Type}{x:Option α}{a:α}(_:x.isSome=true)(h:x=some a):x=some a:=h
def tN:List (Nat×Nat):=[(7,4),(8,4),(13,2),(14,2),(18,1),(19,1),(23,2),(24,2),(43,2),(44,2),(48,2),(49,2),(50,4),(51,4),(52,2),(53,2),(54,17),(55,17),(79,2),(80,2),(102,2),(103,2),(105,12),(106,12),(107,156),(117,4),(118,4),(119,7),(120,7),(134,9),(135,9),(145,4),(162,8),(163,8),(174,2),(175,2),(211,3),(212,3),(227,2),(228,2),(229,2),(230,2),(235,3),(236,3),(245,5),(246,5),(265,12),(266,12),(278,3),(279,3),(281,13),(310,2),(311,2),(324,3),(325,3),(327,7),(328,7),(333,7),(334,7),(354,1),(355,1),(357,5),(358,5),(364,3),(365,3),(390,6),(391,3),(392,3),(405,3),(407,15),(425,4),(426,4),(427,0),(428,0),(429,0),(436,11),(437,11)]
def t1:List (Nat×Unit):=[(2,()),(3,()),(4,()),(5,()),(6,()),(9,()),(10,()),(11,()),(12,()),(21,()),(22,()),(28,()),(33,()),(38,()),(42,()),(74,()),(75,()),(78,()),(91,()),(94,()),(116,()),(121,()),(127,()),(136,()),(142,()),(152,()),(155,()),(159,()),(172,()),(181,()),(190,()),(208,()),(213,()),(218,()),(224,()),(237,()),(241,()),(243,()),(261,()),(268,()),(307,()),(308,()),(322,()),(356,()),(378,()),(431,()),(432,()),(434,()),(435,())]
def tS:List (Nat×Nat×Nat):=[(22,49,2),(33,44,2),(38,3,1),(42,55,17),(78,5,1),(91,103,2),(94,120,7),(116,38,1),(127,118,4),(136,51,4),(142,127,1),(159,163,8),(208,266,12),(213,212,3),(224,277,1),(237,236,3),(241,91,1),(243,246,5),(261,4,1),(268,328,7),(308,311,2),(322,325,3),(378,380,1)]
theorem AR2:tN.all (fun p=>(Tryz.prog.info? p.1 |>.map (·.size))==some p.2&&Fv Tryz.prog p.1==some true)=true:=by kernel_rfl
theorem AO8:t1.all (fun p=>Fv Tryz.prog p.1==some false)=true:=by kernel_rfl
theorem oP:∀p,p∈tS→Tryz.prog.underlying p.1=some (.slice p.2.1)∧A5 Tryz.prog p.2.1=some p.2.2:=by
 intro p hp
 simp only[tS,List.mem_cons,List.not_mem_nil,or_false]at hp
 rcases hp with rfl|rfl|rfl|rfl|rfl|rfl|rfl|rfl|rfl|rfl|rfl|rfl|rfl|rfl|rfl|rfl|rfl|rfl|rfl|rfl|rfl|rfl|rfl
 ·exact⟨Tryz.underlying22,by kernel_rfl⟩
 ·exact⟨Tryz.underlying33,by kernel_rfl⟩
 ·exact⟨Tryz.underlying38,by kernel_rfl⟩
 ·exact⟨Tryz.underlying42,by kernel_rfl⟩
 ·exact⟨Tryz.underlying78,by kernel_rfl⟩
 ·exact⟨Tryz.underlying91,by kernel_rfl⟩
 ·exact⟨Tryz.underlying94,by kernel_rfl⟩
 ·exact⟨Tryz.underlying116,by kernel_rfl⟩
 ·exact⟨Tryz.underlying127,by kernel_rfl⟩
 ·exact⟨Tryz.underlying136,by kernel_rfl⟩
 ·exact⟨Tryz.underlying142,by kernel_rfl⟩
 ·exact⟨Tryz.underlying159,by kernel_rfl⟩
 ·exact⟨Tryz.underlying208,by kernel_rfl⟩
 ·exact⟨Tryz.underlying213,by kernel_rfl⟩
 ·exact⟨Tryz.underlying224,by kernel_rfl⟩
 ·exact⟨Tryz.underlying237,by kernel_rfl⟩
 ·exact⟨Tryz.underlying241,by kernel_rfl⟩
 ·exact⟨Tryz.underlying243,by kernel_rfl⟩
 ·exact⟨Tryz.underlying261,by kernel_rfl⟩
 ·exact⟨Tryz.underlying268,by kernel_rfl⟩
 ·exact⟨Tryz.underlying308,by kernel_rfl⟩
 ·exact⟨Tryz.underlying322,by kernel_rfl⟩
 exact⟨Tryz.underlying378,by kernel_rfl⟩
theorem uN{t z:Nat}(h:KT tN t=some z):Fv Tryz.prog t=some true∧A5 Tryz.prog t=some z:=by
 have:=List.all_eq_true.1 AR2 _ (Ur h)
 simp only[Bool.and_eq_true,beq_iff_eq,Option.map_eq_some_iff]at this
 obtain⟨⟨i,hi,rfl⟩,h2⟩:=this
 exact⟨h2,by unfold A5;rw[hi]⟩
theorem u1{t:Nat}(h:KT t1 t=some ()):Fv Tryz.prog t=some false:=by
 have:=List.all_eq_true.1 AO8 _ (Ur h)
 simpa using this
section
variable{S:St}{t b o:Nat}{c l:List Value}{e:TypeId}{row own:Bool}{kin:List Nat}{v:Value}{z:Nat}
theorem q1(h:KT t1 t=some ())(hb:S.get b=some (.cells c e row own kin))(hv:nth c o=some v):De Tryz.prog t (ptrTo b o) S=some v:=C4 (u1 h) hb hv
theorem q2(h:KT t1 t=some ())(hb:DW S b e c)(hv:nth c o=some v):De Tryz.prog t (ptrTo b o) S=some v:=GN (u1 h) hb hv
theorem q3(h:KT tN t=some z)(hb:S.get b=some (.cells c e row own kin))(hv:takeN z (CH o c)=some l):De Tryz.prog t (ptrTo b o) S=some (AX l):=CD (uN h).1 (uN h).2 hb hv
theorem q4(h:KT tN t=some z)(hb:DW S b e c)(hv:takeN z (CH o c)=some l):De Tryz.prog t (ptrTo b o) S=some (AX l):=Rk (uN h).1 (uN h).2 hb hv
theorem q5{a:Option Addr}{n cap:Nat}(h:KT tS t=some (e,z)):Fo Tryz.prog t (.slice a n cap) S=some (.int .i64 n):=IK (oP _ (Ur h)).1
theorem q6{a:Option Addr}{n cap:Nat}{k:IntKind}{i:Int}(h:KT tS t=some (e,z))(ha:a=some ⟨b,o,none⟩)(hi:0≤i∧i<n):G5 Tryz.prog t (.slice a n cap) (.int k i)=some (ptrTo b (o+i.toNat*z)):=AHa ha (oP _ (Ur h)).1 (oP _ (Ur h)).2 hi
theorem q9{a:Option Addr}{n cap:Nat}{k:IntKind}{i:Int}(h:KT tS t=some (e,z))(_:takeN z (CH (o+i.toNat*z) c)=some l)(ha:a=some ⟨b,o,none⟩)(hi:0≤i∧i<n):G5 Tryz.prog t (.slice a n cap) (.int k i)=some (ptrTo b (o+i.toNat*z)):=q6 h ha hi
variable{P:Program}{K:BX}{n:Nat}{ro:Option Nat}{L:Env}{Q:CV}
theorem qg{c:Code}(h:Nat.beq (pK c) 1=true)(hc:D' P (pO c)=true)(k:RE P K n (pO c) 0 L S Q):XE P K n ro c L S Q:=JG (Bc h) hc k
theorem qs{c:Code}(h:(Nat.beq (pK c) 3&&Nat.beq (pK (pA c)) 1)=true)(hc:D' P (pO (pA c))=true)(k:RE P K n (pO (pA c)) 0 L S (Lq P K n ro (Go.Cm.pB c) Q)):XE P K n ro c L S Q:=by
 rw[Bool.and_eq_true]at h
 exact AG (Bc h.1) (qg h.2 hc k)
end
def kd:Op→Nat
 | .load .. =>1
 | .fieldAddr .. =>2
 | .binOp .. =>3
 | .indexAddr .. =>4
 | .call _=>5
 | .nilCheck .. =>6
 | .move .. =>7
 | .assign .. =>7
 | .extract .. =>7
 | .pick .. =>7
 |_=>0
def ki(ops:List Oper)(i:Nat):Nat:=match nth ops i with
 |some o=>kd o.op
 |none=>9
def kp(pl:List (Oper×Nat))(i:Nat):Nat:=match nth pl i with
 |some o=>kd o.1.op
 |none=>9
theorem tt:true=true:=rfl
theorem rb{n:Nat}{P:Program}{L:Env}{S:St}{o:Oper}{op:BinOp}{t t':TypeId}{x y:Operand}{u w:Value}{b:Bool}(AV:o.op= .binOp op t x y t')(hx:Go.Cm.A7 L x=some u)(hy:Go.Cm.A7 L y=some w)(hv:Fy P op t x y u w=some (.bool b)):Rd P n L S o (.bool b):=Ao AV hx hy hv
section
variable{P:Program}{S:St}{t j b o:Nat}{u w v:Value}
theorem qF(h:H4 P t u j=some v:=by first|exact fa Tryz.underlying7 az7 rfl|exact fa Tryz.underlying8 az8 rfl|exact fa Tryz.underlying13 ACJ rfl|exact fa Tryz.underlying14 ACN rfl|exact fa Tryz.underlying18 ACS rfl|exact fa Tryz.underlying19 ACT rfl|exact fa Tryz.underlying23 ACZ rfl|exact fa Tryz.underlying24 Oc rfl|exact fa Tryz.underlying43 AC1 rfl|exact fa Tryz.underlying44 J3 rfl|exact fa Tryz.underlying48 AC4 rfl|exact fa Tryz.underlying49 Qd rfl|exact fa Tryz.underlying50 AC5 rfl|exact fa Tryz.underlying51 AC6 rfl|exact fa Tryz.underlying52 AC7 rfl|exact fa Tryz.underlying53 AC8 rfl|exact fa Tryz.underlying54 AC9 rfl|exact fa Tryz.underlying55 EP rfl|exact fa Tryz.underlying79 AC' rfl|exact fa Tryz.underlying80 ADA rfl|exact fa Tryz.underlying102 ACB rfl|exact fa Tryz.underlying103 ACC rfl|exact fa Tryz.underlying105 ACD rfl|exact fa Tryz.underlying106 ACE rfl|exact fa Tryz.underlying117 ACF rfl|exact fa Tryz.underlying118 ACG rfl|exact fa Tryz.underlying119 ACH rfl|exact fa Tryz.underlying120 ACI rfl|exact fa Tryz.underlying134 ACK rfl|exact fa Tryz.underlying135 ACL rfl|exact fa Tryz.underlying162 ACO rfl|exact fa Tryz.underlying163 ACP rfl|exact fa Tryz.underlying174 ACQ rfl|exact fa Tryz.underlying175 ACR rfl|exact fa Tryz.underlying211 ACU rfl|exact fa Tryz.underlying212 ACV rfl|exact fa Tryz.underlying227 ACW rfl|exact fa Tryz.underlying228 ACX rfl|exact fa Tryz.underlying229 ACY rfl|exact fa Tryz.underlying230 ACa rfl|exact fa Tryz.underlying235 ACb rfl|exact fa Tryz.underlying236 ACc rfl|exact fa Tryz.underlying245 ACd rfl|exact fa Tryz.underlying246 ACe rfl|exact fa Tryz.underlying265 ACf rfl|exact fa Tryz.underlying266 ACg rfl|exact fa Tryz.underlying278 ACh rfl|exact fa Tryz.underlying279 ACi rfl|exact fa Tryz.underlying310 ACj rfl|exact fa Tryz.underlying311 ACk rfl|exact fa Tryz.underlying324 ACl rfl|exact fa Tryz.underlying325 ACm rfl|exact fa Tryz.underlying327 ACn rfl|exact fa Tryz.underlying328 ACo rfl|exact fa Tryz.underlying333 ACp rfl|exact fa Tryz.underlying334 ACq rfl|exact fa Tryz.underlying354 ACr rfl|exact fa Tryz.underlying355 ACs rfl|exact fa Tryz.underlying357 ACt rfl|exact fa Tryz.underlying358 ACu rfl|exact fa Tryz.underlying364 ACv rfl|exact fa Tryz.underlying365 ACw rfl|exact fa Tryz.underlying391 ACx rfl|exact fa Tryz.underlying392 ACy rfl|exact fa Tryz.underlying425 ACz rfl|exact fa Tryz.underlying426 AC0 rfl|exact fa Tryz.underlying436 AC2 rfl|exact fa Tryz.underlying437 AC3 rfl):H4 P t u j=some v:=h
theorem qG{x:AF}(h:S.get b=some x:=by first|exact hl.get 0 rfl|exact hl.get 1 rfl|exact hl.get 2 rfl|exact hl.get 3 rfl|exact hl.get 4 rfl|exact hl.get 5 rfl|exact hl.get 6 rfl|exact hl.get 7 rfl|exact hl.get 8 rfl|exact hd.at_ hl.AD|exact hd.d.at_ hl.AD):S.get b=some x:=h
theorem qR{e:TypeId}{c:List Value}(h:DW S b e c:=by first|assumption|exact E6 (hl.since 0 rfl) (by assumption)|exact E6 (hl.since 1 rfl) (by assumption)|exact E6 (hl.since 2 rfl) (by assumption)):DW S b e c:=h
theorem qT{c:List Value}(h:nth c o=some v:=by first|assumption|exact HU (j:=0) (by assumption) rfl|exact HU (j:=1) (by assumption) rfl|exact HU (j:=2) (by assumption) rfl|exact HU (j:=3) (by assumption) rfl|exact HU (j:=4) (by assumption) rfl|exact HU (j:=5) (by assumption) rfl|exact HU (j:=6) (by assumption) rfl|exact HU (j:=7) (by assumption) rfl|exact HU (j:=8) (by assumption) rfl|exact HU (j:=9) (by assumption) rfl|exact HU (j:=10) (by assumption) rfl|exact HU (j:=11) (by assumption) rfl|exact HU (j:=12) (by assumption) rfl|exact HU (j:=13) (by assumption) rfl|exact HU (j:=14) (by assumption) rfl|exact HU (j:=15) (by assumption) rfl|exact HU (j:=16) (by assumption) rfl):nth c o=some v:=h
theorem qW{z:Nat}{c l:List Value}(h:takeN z (CH o c)=some l:=by first|assumption|exact Te (j:=0) (by assumption) rfl|exact Te (j:=2) (by assumption) rfl|exact Te (j:=4) (by assumption) rfl|exact Te (j:=5) (by assumption) rfl|exact Te (j:=6) (by assumption) rfl|exact Te (j:=8) (by assumption) rfl|exact Te (j:=10) (by assumption) rfl):takeN z (CH o c)=some l:=h
theorem qL(h:De P t u S=some v:=by first|exact q1 (ks tt rfl) qG (by rfl)|exact q3 (ks tt rfl) qG (by rfl)|exact q4 (ks tt rfl) qR qW|exact q2 (ks tt rfl) qR qT):De P t u S=some v:=h
variable{n d i:Nat}{ro:Option Nat}{K:BX}{L:Env}{ops:List Oper}{o:Oper}{Q:CV}{AJ:List Nat}{pl:List (Oper×Nat)}{E:List DE}
theorem kq{m:Nat}(_:Nat.beq (kd o.op) m=true)(x:Rd P n L S o v):Rd P n L S o v:=x
theorem rn(_:Nat.beq (ki ops i) 7=true)(h:da ops i L n=some (d,v))(k:RE P K n ops (i+1) ((d,v)::L) S Q):RE P K n ops i L S Q:=rm h k
theorem pn(_:Nat.beq (kp pl i) 7=true)(h:mX pl ops i L n=some (d,v))(k:RP P K n ops AJ pl (i+1) E ((d,v)::L) S Q):RP P K n ops AJ pl i E L S Q:=pm h k
theorem qq(h:Rd P n L S o v:=by first|exact kq (m:=1) tt (CU rfl rfl qL)|exact kq (m:=2) tt (CM rfl rfl qF)|exact kq (m:=3) tt (Ao rfl rfl rfl (ATP _ _ _ _))|exact kq (m:=3) tt (Ao rfl rfl rfl (AHn _ _ _ _))|exact kq (m:=3) tt (Ao rfl rfl rfl (ATR _ _ _ _))|exact kq (m:=3) tt (rb rfl rfl rfl rfl)|exact kq (m:=3) tt (Ao rfl rfl rfl (i6 AA))|exact kq (m:=3) tt (Ao rfl rfl rfl (AJ6 AA))|exact kq (m:=3) tt (Ao rfl rfl rfl (AJg AA AA AA))|exact kq (m:=5) tt (F8 rfl rfl (q5 rfl))|exact kq (m:=4) tt (Ea rfl rfl rfl (q9 rfl (by assumption) (by assumption) ⟨AA,AA⟩))|exact kq (m:=4) tt (Ea rfl rfl rfl (q6 rfl (by first|assumption|exact rfl) ⟨AA,AA⟩))|exact kq (m:=6) tt (AJn rfl rfl rfl)|exact kq (m:=3) tt (Ao rfl rfl rfl wA)|exact kq (m:=3) tt (Ao rfl rfl rfl wS)|exact kq (m:=3) tt (Ao rfl rfl rfl wM)):Rd P n L S o v:=h
theorem rj(h:RE P K n ops i L S Q):RE P K n ops i L S Q:=h
theorem pj(h:RP P K n ops AJ pl i E L S Q):RP P K n ops AJ pl i E L S Q:=h
theorem x3{c:Code}(h:Nat.beq (pK c) 3=true)(k:XE P K n ro (pA c) L S (Lq P K n ro (Go.Cm.pB c) Q)):XE P K n ro c L S Q:=AG (Bc h) k
theorem x9{c:Code}(h:Nat.beq (pK c) 9=true)(k:Q .ret L S):XE P K n ro c L S Q:=Gt (Bc h) k
theorem x0{c:Code}(h:Nat.beq (pK c) 0=true)(k:Q .normal L S):XE P K n ro c L S Q:=Ar (Bc h) k
theorem x7{c:Code}(h:Nat.beq (pK c) 7=true)(k:Q (.exit (pI c)) L S):XE P K n ro c L S Q:=HB (Bc h) k
theorem x5{c:Code}(h:Nat.beq (pK c) 5=true)(k:XE P K n ro (pA c) L S (QU (pI c) Q)):XE P K n ro c L S Q:=Az (Bc h) k
theorem ci{c:Code}(hk:Nat.beq (pK c) 4=true)(hc:Go.Cm.A7 L (pC c)=some (.bool true))(k:XE P K n ro (pA c) L S Q):XE P K n ro c L S Q:=Yn (Bc hk) hc k
theorem cj{c:Code}(hk:Nat.beq (pK c) 4=true)(hc:Go.Cm.A7 L (pC c)=some (.bool false))(k:XE P K n ro (Go.Cm.pB c) L S Q):XE P K n ro c L S Q:=ASz (Bc hk) hc k
theorem zi{c:Code}{b:Bool}(hk:Nat.beq (pK c) 4=true)(hc:Go.Cm.A7 L (pC c)=some (.bool b))(k:(b=true→XE P K n ro (pA c) L S Q)∧(b=false→XE P K n ro (Go.Cm.pB c) L S Q)):XE P K n ro c L S Q:=DQ (Bc hk) hc k.1 k.2
theorem xj{c:Code}(h:XE P K n ro c L S Q):XE P K n ro c L S Q:=h
end
section
variable{P:Program}{K:BX}{n:Nat}{L:Env}{S S' S0:St}{ops:List Oper}{i d:Nat}{Q:CV}{AJ:List Nat}{pl:List (Oper×Nat)}{E:List DE}{Ts:List St}{l:List (Nat×AF)}{gs:List Gr}{f:FuncId}{vs:List Value}
def ZI(o:Oper)(L:Env):Option (FuncId×List Value):=match o.op with
 | .call ⟨.value x,ys,_⟩=>match Go.Cm.A7 L x with
  |some (.func (.func f) fi ca)=>match D3 L ys.toList with
   |some vs=>some (f,(fi.toList++vs)++ca.toList)
   |none=>none
  |_=>none
 |_=>none
def rf(ops:List Oper)(i:Nat)(L:Env)(n:Nat):Option (Nat×FuncId×List Value):=match VN ops i L n with
 |some (o,d)=>match ZI o L with
  |some x=>some (d,x)
  |none=>none
 |none=>none
def ri(pl:List (Oper×Nat))(ops:List Oper)(q:Nat)(L:Env)(n:Nat):Option (Nat×Nat×FuncId×List Value):=match nth pl q with
 |some (o,j)=>match Be ops L o with
  |some true=>match o.dst with
   |some d=>bif Nat.blt d n then match ZI o L with
    |some x=>some (j,d,x)
    |none=>none
    else none
   |none=>none
  |_=>none
 |none=>none
theorem rh{o:Oper}(h:ZI o L=some (f,vs)):∃x ys ts fi ca ws,o.op= .call ⟨.value x,ys,ts⟩∧Go.Cm.A7 L x=some (.func (.func f) fi ca)∧D3 L ys.toList=some ws∧vs=(fi.toList++ws)++ca.toList:=by
 unfold ZI at h
 split at h
 ·rename_i x ys ts h1
  split at h
  ·rename_i f' fi ca h2
   split at h
   ·rename_i ws h3
    cases h
    exact⟨_,_,_,_,_,_,h1,h2,h3,rfl⟩
   cases h
  cases h
 cases h
theorem zc(hl:AE S0 Ts S l gs){R:Value→St→Prop}(h:rf ops i L n=some (d,f,vs))(hc:CC P K f vs S fun v S'=>AL S S'∧R v S')(k:∀v S',AL S S'→R v S'→AE S0 Ts S' l gs→RE P K n ops (i+1) ((d,v)::L) S' Q):RE P K n ops i L S Q:=by
 unfold rf at h
 split at h
 ·rename_i o d' h1
  split at h
  ·rename_i x h2
   cases h
   obtain⟨a1,a2,a3,a4⟩:=YX h1
   obtain⟨x,ys,ts,fi,ca,ws,b1,b2,b3,rfl⟩:=rh h2
   exact Pf hl a1 b1 a2 a3 a4 b2 b3 hc k
  cases h
 cases h
theorem zp{j:Nat}(hl:AE S0 Ts S l gs){R:Value→St→Prop}(h:ri pl ops i L n=some (j,d,f,vs))(hc:CC P K f vs S fun v S'=>AL S S'∧R v S')(k:∀v S',AL S S'→R v S'→AE S0 Ts S' l gs→FP P n S' ((nth AJ j).getD 0) E∧RP P K n ops AJ pl (i+1) (left ((nth AJ j).getD 0) E) ((d,v)::L) S' Q):RP P K n ops AJ pl i E L S Q:=by
 unfold ri at h
 split at h
 ·rename_i o j' h1
  split at h
  ·rename_i h2
   split at h
   ·rename_i d' h3
    cases hb:Nat.blt d' n with
    |true =>
     rw[hb]at h
     simp only[cond_true]at h
     split at h
     ·rename_i x h4
      cases h
      obtain⟨x,ys,ts,fi,ca,ws,b1,b2,b3,rfl⟩:=rh h4
      exact cX hl h1 b1 h2 h3 hb b2 b3 hc k
     cases h
    |false=>rw[hb]at h;cases h
   cases h
  cases h
 cases h
theorem slx{P:Program}{n:Nat}{e:DE}{S':St}{t:TypeId}{x:Operand}{u:Value}(AV:e.op= .call ⟨.builtin .len, #[x], #[t]⟩)(hx:Go.Cm.A7 e.L x=some u)(hv:Fo P t u S'=some e.v)(hs:CP 100000 e.v e.v=true)(hf:e.fr=none){X:Prop}:X→HY P n S' e:=fun _=>by
 unfold HY
 rw[hf]
 exact⟨fun a ha=>by rw[AV];show Fo P t (a.ev x) S'=_;rw[ha.ev hx,hv],hs⟩
theorem kf{e:DE}{X:Prop}(_:e.fr.isSome=true)(y:X→HY P n S' e):X→HY P n S' e:=y
theorem kl{e:DE}{X:Prop}(_:Nat.beq (kd e.op) 1=true)(y:X→HY P n S' e):X→HY P n S' e:=y
theorem zt{m:Nat}(h:FP P n S' m E:=by repeat (first|exact trivial|refine oL ?_|(refine⟨by first|exact sZ|exact kf tt (sN rfl qG)|exact kl tt (CQ rfl rfl qL sG rfl)|exact kl tt (CQ rfl rfl qL sQ rfl)|exact slx rfl rfl (q5 rfl) sQ rfl,?_⟩))):FP P n S' m E:=h
variable{R:Value→St→Prop}{x y:Tmp}{u v:Value}{ro:Option Nat}{c:Code}
theorem y1(h:Go.Cm.look L x=some v)(q:R v S):M9 P [.tmp x] R .ret L S:=BA (BD h rfl) q
theorem y2(h:Go.Cm.look L x=some v)(k:Go.Cm.look L y=some u)(q:R (Aw [v,u]) S):M9 P [.tmp x,.tmp y] R .ret L S:=BA (BD h (BD k rfl)) q
theorem z1(h:Go.Cm.look L x=some v)(q:R v S):Lq P K n ro c (M9 P [.tmp x] R) .ret L S:=y1 h q
theorem z2(h:Go.Cm.look L x=some v)(k:Go.Cm.look L y=some u)(q:R (Aw [v,u]) S):Lq P K n ro c (M9 P [.tmp x,.tmp y] R) .ret L S:=y2 h k q
end
structure Wr(H:Prop):Prop where
 out:H
theorem zg{G H:Prop}(k:H)(h:Wr H→G:=by intro k;(repeat (first|(refine rj ?_;first|refine rn tt rfl ?_|refine Ak tt ?_|refine rr rfl qq ?_|refine rz rfl ?_)|(refine pj ?_;first|refine pn tt rfl ?_|refine pk rfl qq ?_|refine pr rfl qq ?_|refine Hr tt ?_|refine pz rfl ?_)|(refine xj ?_;first|refine qs tt AB ?_|refine qg tt AB ?_|refine x3 tt ?_|refine x9 tt ?_|refine x0 tt ?_|refine x7 tt ?_|refine x5 tt ?_|refine ci tt rfl ?_|refine cj tt rfl ?_|refine zi tt rfl ?_)));exact k.1):G:=h ⟨k⟩
theorem zA{G H:Prop}(k:H)(h:Wr H→G:=by intro k;(repeat (first|(refine rj ?_;first|refine rn tt rfl ?_|refine Ak tt ?_|refine rr rfl qq ?_|refine rz rfl ?_)|(refine pj ?_;first|refine pn tt rfl ?_|refine pk rfl qq ?_|refine pr rfl qq ?_|refine Hr tt ?_|refine pz rfl ?_)));exact k.1):G:=h ⟨k⟩
theorem zS{G H:Prop}(k:H)(h:Wr H→G:=by intro k;(first|refine qs tt AB ?_|refine qg tt AB ?_);(repeat (first|(refine rj ?_;first|refine rn tt rfl ?_|refine Ak tt ?_|refine rr rfl qq ?_|refine rz rfl ?_)|(refine pj ?_;first|refine pn tt rfl ?_|refine pk rfl qq ?_|refine pr rfl qq ?_|refine Hr tt ?_|refine pz rfl ?_)));exact k.1):G:=h ⟨k⟩
section
variable{P:Program}{t:TypeId}{xo yo:Operand}{a b:Int}
theorem Hn(hb:0<b)(h0:0≤a):0≤a.tdiv b∧a.tdiv b≤a :=
 ⟨Int.tdiv_nonneg h0 AA,Int.tdiv_le_self b h0⟩
theorem IV(hb:0<b)(h0:0≤a):0≤a.tmod b∧a.tmod b<b :=
 ⟨Int.tmod_nonneg b h0,Int.tmod_lt_of_pos a hb⟩
theorem AJg(hb:0<b)(h0:0≤a)(h1:a≤9223372036854775807):Fy P .quo t xo yo (.int .i64 a) (.int .i64 b)=some (.int .i64 (a.tdiv b)):=by
 have h:=Hn hb h0
 show(if b=0 then none else some (Value.int .i64 (IntKind.i64.wrap (a.tdiv b))))=_
 rw[if_neg AA,IntWalk.i64_in _ AA]
theorem AJ6(hb:0<b):Fy P .rem t xo yo (.int .i64 a) (.int .i64 b)=some (.int .i64 (a.tmod b)):=by
 show(if b=0 then none else some (Value.int .i64 (a.tmod b)))=_
 rw[if_neg AA]
end
def Jh(a n:Int):Int:=bif decide (a.tmod n<0)then a.tmod n+n else a.tmod n
theorem AAx(a:Int){n:Int}(hn:0<n): -n<a.tmod n∧a.tmod n<n :=
 ⟨Int.lt_tmod_of_pos a hn,Int.tmod_lt_of_pos a hn⟩
theorem bj(a:Int){n:Int}(hn:0<n):0≤Jh a n∧Jh a n<n:=by
 have h:=AAx a hn
 unfold Jh
 cases hd:decide (a.tmod n<0)with
 |true=>have:=I6 hd;show 0≤a.tmod n+n∧a.tmod n+n<n;omega
 |false=>have:=Jk hd;show 0≤a.tmod n∧a.tmod n<n;omega
theorem AIe{a n:Int}(h:decide (a.tmod n<0)=true):a.tmod n+n=Jh a n:=by unfold Jh;rw[h];rfl
theorem AIf{a n:Int}(h:decide (a.tmod n<0)=false):a.tmod n=Jh a n:=by unfold Jh;rw[h];rfl
section
variable{P:Program}{K:BX}{n:Nat}{L:Env}{S S0:St}{Q:CV}{ops:List Oper}{i d:Nat}{o:Oper}{Ts:List St}{q l:List (Nat×AF)}{AJ:List Nat}{pl:List (Oper×Nat)}{j:Nat}{E:List DE}
def OW(v:Value)(e:TypeId)(z:Nat)(c:List Value)(m:Nat)(fr:List (Nat×AF)):Prop :=
 (v= .slice none 0 0∧c= []∧m=0∧fr= [])∨∃b dd,v= .slice (some ⟨b,0,none⟩) m m∧c.length=m*z∧fr=(b,.cells c e true true (dd.map (·.1)))::dd∧∀p,p∈dd→∃c2 own kin,p.2= .cells c2 e true own kin
theorem OW.is{v:Value}{e:TypeId}{z m:Nat}{c:List Value}{fr:List (Nat×AF)}(h:OW v e z c m fr):∃a,v= .slice a m m:=by
 rcases h with ⟨rfl,_,rfl,_⟩|⟨b,dd,rfl,_,_⟩
 ·exact⟨none,rfl⟩
 exact⟨_,rfl⟩
theorem OW.ls{α:Type}{f:α→List Value}{C:List α}{v:Value}{e:TypeId}{z:Nat}{fr:List (Nat×AF)}(hz:∀x,(f x).length=z)(h:OW v e z ((C.map f).flatten) C.length fr)(hl:AE S0 Ts S (q++(fr++l)) []):A0 e z f S v C:=by
 rcases h with ⟨rfl,_,h3,_⟩|⟨b,dd,rfl,_,rfl,_⟩
 ·have:C= []:=List.length_eq_zero_iff.1 h3
  subst this
  exact A0.nil
 obtain⟨h1,_,h2⟩:=hl.at_ b _ (List.mem_append.2 (.inr (List.mem_append.2 (.inl Al))))
 exact A0.row hz ⟨h2,_,_,h1⟩ rfl
theorem qb{v:Value}{e:TypeId}{z len:Nat}{c:List Value}{fr:List (Nat×AF)}(hl:AE S0 Ts S (q++(fr++l)) [])(hg:OW v e z c len fr){ts:Array TypeId}{sT xT:TypeId}{xd:TypeDesc}{x:Value}{m:Nat}{new:List Value}
  (CT:ts.toList= [sT,xT])(hu:P.underlying sT=some (.slice e))(Dd:P.underlying xT=some xd)(hi:FV xd=false)(hlen:F6 x=some m)(hm:0<m)(hz:A5 P e=some z)(hs:EN S z m x=some new)
  (Cb:new.length=m*z)(hc:new.all D9=true)(FF:Io P e z=true)(FU:len+m≤Ae) :
  ∃v' Cs S',ER P .append ts.toList [v,x] S=some (v',S')∧OW v' e z (c++new) (len+m) Cs∧AE S0 Ts S' (q++(Cs++l)) []:=by
 have hl:=hl.perm (List.perm_append_comm_assoc q fr l)
 suffices h:∃v' Cs S',ER P .append ts.toList [v,x] S=some (v',S')∧OW v' e z (c++new) (len+m) Cs∧AE S0 Ts S' (Cs++(q++l)) [] by
  obtain⟨v',Cs,S',h1,h2,h3⟩:=h
  exact⟨v',Cs,S',h1,h2,h3.perm (List.perm_append_comm_assoc Cs q l)⟩
 rcases hg with ⟨rfl,rfl,rfl,rfl⟩|⟨b,dd,rfl,G1,rfl,hdd⟩
 ·refine⟨.slice (some ⟨S.size,0,none⟩) m m,[(S.size,.cells new e true true [])],(S.new (.cells new e true true [])).2,?_,.inr ⟨S.size,[],by rw[Nat.zero_add],by rw[Nat.zero_add];exact Cb,rfl,fun _ h=>(List.not_mem_nil h).elim⟩,hl.new _⟩
  unfold ER
  simp only
  have hb:Nat.ble (0+m) 0=false:=by
   cases hb:Nat.ble (0+m) 0 with
   |false=>rfl
   |true=>have:=Nat.le_of_ble_eq_true hb;omega
  have:Fx P ts.toList (.slice none 0 0) x S=some (.slice (some ⟨S.size,0,none⟩) m m,(S.new (.cells new e true true [])).2):=by
   unfold Fx
   rw[CT]
   simp only[hu,Dd,hlen,hi,hz,hs,cond_false]
   unfold Fw Fw.Ol
   rw[hb,Wf FF FU,hc]
   simp only[cond_false,Bool.and_self,cond_true]
   unfold OZ
   simp only[IN,cond_true]
   rfl
  rw[this]
 have h0:S.get b=some (.cells c e true true (dd.map (·.1))):=hl.get 0 rfl
 have HJ:=hl.at_ b _ Al
 have LA:AE S0 Ts (S.set b (.cells c e true false (dd.map (·.1)))) ((b,.cells c e true false (dd.map (·.1)))::(dd++(q++l))) []:=by
  refine⟨hl.AD.set HJ.2.1 HJ.2.2 _,hl.nd,fun k y hk=>?_,fun T ht=>(hl.rk T ht).trans (AKD h0),fun g hg=>(List.not_mem_nil hg).elim⟩
  rcases List.mem_cons.1 hk with e1|ED
  ·cases e1
   exact⟨by rw[Ee,if_pos rfl],HJ.2.1,HJ.2.2⟩
  obtain⟨k1,k2,k3⟩:=hl.at_ k y (BQ ED)
  refine⟨?_,k2,k3⟩
  rw[Ee,if_neg]
  ·exact k1
  rintro rfl
  have:=hl.nd
  exact(List.nodup_cons.1 this).1 (List.mem_map.2 ⟨_,ED,rfl⟩)
 have CY:=LA.new (.cells (c++new) e true true (b::dd.map (·.1)))
 refine⟨_,(_,.cells (c++new) e true true (b::dd.map (·.1)))::(b,.cells c e true false (dd.map (·.1)))::dd,_,?_,.inr ⟨_,(b,.cells c e true false (dd.map (·.1)))::dd,rfl,by rw[DS,G1,Cb,Nat.add_mul],rfl,fun p hp=>?_⟩,CY⟩
 rotate_left
 ·rcases List.mem_cons.1 hp with rfl|hp
  ·exact⟨_,_,_,rfl⟩
  exact hdd p hp
 unfold ER
 simp only
 have hb:Nat.ble (len+m) len=false:=by
  cases hb:Nat.ble (len+m) len with
  |false=>rfl
  |true=>have:=Nat.le_of_ble_eq_true hb;omega
 have:Fx P ts.toList (.slice (some ⟨b,0,none⟩) len len) x S=some (.slice (some ⟨(S.set b (.cells c e true false (dd.map (·.1)))).size,0,none⟩) (len+m) (len+m),((S.set b (.cells c e true false (dd.map (·.1)))).new (.cells (c++new) e true true (b::dd.map (·.1)))).2):=by
  unfold Fx
  rw[CT]
  simp only[hu,Dd,hlen,hi,hz,hs,cond_false]
  unfold Fw Fw.Ol
  rw[hb,Wf FF FU,hc]
  simp only[cond_false,Bool.and_self,cond_true]
  unfold OZ
  have ht:takeN (len*z) (CH 0 c)=some c:=by
   show takeN (len*z) c=_
   rw[←G1];exact oR _
  simp only[h0,ht,Nat.zero_add,G1,IN,Bool.and_self,cond_true]
  rfl
 rw[this]
theorem nL{v:Value}{e:TypeId}{z len:Nat}{c:List Value}{fr:List (Nat×AF)}{k:Nat}(hl:AE S0 Ts S (q++(fr++l)) [])(hg:OW v e z c len fr){ar:Array Operand}{ts:Array TypeId}{sT xT:TypeId}{xd:TypeDesc}{x:Value}{m:Nat}{new:List Value}
  (ho:nth pl k=some (o,j))(AV:o.op= .call ⟨.builtin .append,ar,ts⟩)(hw:Be ops L o=some true)(Hg:o.dst=some d)(AN:Nat.blt d n=true)(hx:Cm.D3 L ar.toList=some [v,x])(CT:ts.toList= [sT,xT])
  (hu:P.underlying sT=some (.slice e))(Dd:P.underlying xT=some xd)(hi:FV xd=false)(hlen:F6 x=some m)(hm:0<m)(hz:A5 P e=some z)(hs:EN S z m x=some new)
  (Cb:new.length=m*z)(hc:new.all D9=true)(FF:Io P e z=true)(FU:len+m≤Ae)
  (h:∀v' Cs S',OW v' e z (c++new) (len+m) Cs→AE S0 Ts S' (q++(Cs++l)) []→FP P n S' ((nth AJ j).getD 0) E∧RP P K n ops AJ pl (k+1) (left ((nth AJ j).getD 0) E) ((d,v')::L) S' Q):RP P K n ops AJ pl k E L S Q:=by
 obtain⟨v',Cs,S',h1,h2,h3⟩:=qb hl hg CT hu Dd hi hlen hm hz hs Cb hc FF FU
 exact YG ho (by rw[AV];rfl) hw Hg AN (fun a ha=>⟨0,by rw[AV];unfold CG;simp only[kindOf,NW ha hx,h1]⟩) (h v' Cs S' h2 h3).1 (h v' Cs S' h2 h3).2
theorem VC{v:Value}{e:TypeId}{z len:Nat}{c:List Value}{fr:List (Nat×AF)}(hl:AE S0 Ts S (q++(fr++l)) [])(hg:OW v e z c len fr){ar:Array Operand}{ts:Array TypeId}{sT xT:TypeId}{xd:TypeDesc}{x:Value}{m:Nat}{new:List Value}
  (ho:nth ops i=some o)(AV:o.op= .call ⟨.builtin .append,ar,ts⟩)(hw:Be ops L o=some true)(Hg:o.dst=some d)(AN:Nat.blt d n=true)(hx:Cm.D3 L ar.toList=some [v,x])(CT:ts.toList= [sT,xT])
  (hu:P.underlying sT=some (.slice e))(Dd:P.underlying xT=some xd)(hi:FV xd=false)(hlen:F6 x=some m)(hm:0<m)(hz:A5 P e=some z)(hs:EN S z m x=some new)
  (Cb:new.length=m*z)(hc:new.all D9=true)(FF:Io P e z=true)(FU:len+m≤Ae)
  (h:∀v' Cs S',OW v' e z (c++new) (len+m) Cs→AE S0 Ts S' (q++(Cs++l)) []→RE P K n ops (i+1) ((d,v')::L) S' Q):RE P K n ops i L S Q:=by
 obtain⟨v',Cs,S',h1,h2,h3⟩:=qb hl hg CT hu Dd hi hlen hm hz hs Cb hc FF FU
 exact mo ho AV hw Hg AN rfl hx h1 (h v' Cs S' h2 h3)
theorem OW.push{α:Type}{f:α→List Value}{C:List α}{s:α}{a:Option Addr}{e:TypeId}{z:Nat}{fr:List (Nat×AF)}(h:OW (.slice a (C.length+1) (C.length+1)) e z ((C.map f).flatten++f s) (C.length+1) fr):OW (.slice a (C++[s]).length (C++[s]).length) e z (((C++[s]).map f).flatten) (C++[s]).length fr:=by
 rw[tM,DS]
 exact h
theorem _root_.Go.Cm.AE.mi{r dd:List (Nat×AF)}{b:Nat}{c:List Value}{e:TypeId}(h:AE S0 [S0] S (r++(b,.cells c e true true (dd.map (·.1)))::dd) [])(y:AF) :
  AE S0 [S0] ((S.kill (dd.map (·.1))).set b y) (r++[(b,y)]) []:=by
 generalize G2:dd.map (·.1)=ks at *
 have Gf:=h.nd
 rw[Hm,List.map_cons,G2]at Gf
 have hb:=h.at_ b _ (List.mem_append.2 (.inr Al))
 have G2:∀k,k∈ks→S0.size≤k:=fun k hk=>by
  rw[←G2]at hk
  obtain⟨⟨k',x⟩,hx,rfl⟩:=List.mem_map.1 hk
  exact(h.at_ k' x (List.mem_append.2 (.inr (BQ hx)))).2.1
 have Dm:∀j,j≠b→j∉ks→((S.kill ks).set b y).get j=S.get j:=fun j h1 h2=>by
  rw[Ee,if_neg h1,LQ,if_neg h2]
 have A4:((S.kill ks).set b y).size=S.size:=PQ ks S
 have hold:∀j,j<S0.size→((S.kill ks).set b y).get j=S.get j:=fun j hj=>Dm j (by have:=hb.2.1;omega) (fun hm=>by have:=G2 j hm;omega)
 have Ng:=(List.nodup_append.1 Gf)
 refine⟨⟨by rw[A4];exact h.AD.1,fun j hj=>(hold j hj).trans (h.AD.2 j hj),fun f=>?_⟩,?_,fun j x hx=>?_,fun T ht=>?_,fun g hg=>(List.not_mem_nil hg).elim⟩
 ·intro j hj
  rw[A4]at hj
  rw[Ee,if_neg (by have:=hb.2.2;omega),LQ]
  split
  ·rfl
  exact h.AD.3 f j hj
 ·rw[Hm,List.map_cons,List.map_nil]
  refine List.nodup_append.2 ⟨Ng.1,List.nodup_cons.2 ⟨List.not_mem_nil,List.nodup_nil⟩,fun a ha c hc=>?_⟩
  rw[List.mem_singleton.1 hc]
  exact Ng.2.2 a ha b Al
 ·rw[A4]
  rcases List.mem_append.1 hx with hx|hx
  ·have hm:=h.at_ j x (List.mem_append.2 (.inl hx))
   have hj:j∈r.map (·.1):=List.mem_map.2 ⟨(j,x),hx,rfl⟩
   refine⟨?_,hm.2⟩
   rw[Dm j (Ng.2.2 j hj b Al) (fun hk=>Ng.2.2 j hj j (BQ hk) rfl)]
   exact hm.1
  cases List.mem_singleton.1 hx
  exact⟨by rw[Ee,if_pos rfl],hb.2⟩
 rw[List.mem_singleton.1 ht]
 refine⟨by rw[A4];exact h.AD.1,fun j e2 c2 ⟨hj,own,kin,hg⟩=>⟨by rw[A4];exact Nat.lt_of_lt_of_le hj h.AD.1,own,kin,?_⟩⟩
 rw[hold j hj,h.AD.2 j hj]
 exact hg
def RKx(e:TypeId)(S S':St):Prop:= ∀b e' c,e'≠e→DW S b e' c→DW S' b e' c
theorem AT5{v:Value}{e:TypeId}{z m k:Nat}{c c':List Value}{fr:List (Nat×AF)}{t:TypeId}{u:Value}{a:Option Addr}(hl:AE S0 [S0] S (q++(fr++l)) [])(hg:OW v e z c m fr)(hm:0<m)(hv:v= .slice a m m)
  (hz:Kc P t u=true)(hs:Bq k (BG u) c=some c')(G1:c'.length=c.length):∃b S' Cs,a=some ⟨b,0,none⟩∧Fs P t (ptrTo b k) u S=some S'∧OW v e z c' m Cs∧AE S0 [S0] S' (q++(Cs++l)) []∧RKx e S S':=by
 rcases hg with ⟨_,_,h,_⟩|⟨b,dd,rfl,h2,rfl,hdd⟩
 ·omega
 have hl:=hl.perm (List.perm_append_comm_assoc q _ l)
 have CY:=hl.perm (List.perm_append_comm)
 have hb:=CY.at_ b _ (List.mem_append.2 (.inr Al))
 cases hv
 refine⟨b,_,[(b,.cells c' e true true [])],rfl,AAu hz hb.1 hs,.inr ⟨b,[],rfl,by rw[G1,h2],rfl,fun _ h=>(List.not_mem_nil h).elim⟩,?_,fun j e2 c2 Ac ⟨hj,own,kin,hg⟩=>⟨by rw[show((S.kill (dd.map (·.1))).set b _).size=S.size from PQ _ S];exact hj,own,kin,?_⟩⟩
 ·exact((CY.mi (.cells c' e true true [])).perm List.perm_append_comm).perm (List.perm_append_comm_assoc [_] q l)
 rw[Ee,if_neg,LQ,if_neg]
 ·exact hg
 ·intro hm2
  obtain⟨⟨j',y⟩,hy,rfl⟩:=List.mem_map.1 hm2
  obtain⟨c3,o3,k3,e3⟩:=hdd _ hy
  have h3:=(CY.at_ j' y (List.mem_append.2 (.inr (BQ hy)))).1
  simp only at e3
  rw[e3,hg]at h3
  cases h3
  exact Ac rfl
 rintro rfl
 rw[hb.1]at hg
 cases hg
 exact Ac rfl
theorem Yc{v:Value}{e:TypeId}{z m k:Nat}{c c':List Value}{fr:List (Nat×AF)}{t:TypeId}{u:Value}{a:Option Addr}(hl:AE S0 [S0] S (q++(fr++l)) [])(hg:OW v e z c m fr)(hm:0<m)(hv:v= .slice a m m)
  (hz:Kc P t u=true)(hs:Bq k (BG u) c=some c')(G1:c'.length=c.length):∃b S' Cs,a=some ⟨b,0,none⟩∧Fs P t (ptrTo b k) u S=some S'∧OW v e z c' m Cs∧AE S0 [S0] S' (q++(Cs++l)) []:=by
 obtain⟨b,S',Cs,h1,h2,h3,h4,_⟩:=AT5 hl hg hm hv hz hs G1
 exact⟨b,S',Cs,h1,h2,h3,h4⟩
end
theorem I'{α:Type}:∀(C:List α) (k:Nat) (y:α),(C.set k y).length=C.length:=fun _ _ _=>List.length_set
theorem VK{α:Type}{g:α→Value}:∀{C:List α} {k:Nat} (y:α),k<C.length→Bq k [g y] ((C.map fun x=>[g x]).flatten)=some ((((C.set k y).map fun x=>[g x])).flatten)
 | [],_,_,h=>by simp at h
 |x::C,0,y,_=>by
  show Bq 0 [g y] (g x::(C.map fun x=>[g x]).flatten)=some (g y::(C.map fun x=>[g x]).flatten)
  exact ANG _ _ _
 |x::C,k+1,y,h=>by
  have:=VK (g:=g) (C:=C) (k:=k) y (by simpa using h)
  show Bq (k+1) [g y] (g x::(C.map fun x=>[g x]).flatten)=some (g x::(((C.set k y).map fun x=>[g x])).flatten)
  unfold Bq
  rw[this]
theorem HW{P:Program}{K:BX}{n:Nat}{ro:Option Nat}{L:Env}{S S0:St}{Q:CV}{Ts:List St}{l:List (Nat×AF)}{gs:List Gr}(_:AE S0 Ts S l gs){c:Code}(d:Nat){α:Type}(f:α→Value)(h:XE P K n ro c L S fun e L' S'=>e= .normal∧(∃x,Go.Cm.look L' d=some (f x))∧Kq L L'∧AE S0 Ts S' l gs)(hn:Go.Cm.look L d=none)(hq:∀x S',AE S0 Ts S' l gs→Q .normal ((d,f x)::L) S'):XE P K n ro c L S Q:=by
 intro a ha
 obtain⟨m,e,a',S',L',h1,h2,h3,⟨x,h4⟩,h5,h6⟩:=h a ha
 subst h3
 refine⟨m,_,a',S',(d,f x)::L,h1,h2.Yd fun k u hk=>?_,hq x S' h6⟩
 rw[LR]at hk
 by_cases e:k=d
 ·subst e;rw[if_pos rfl]at hk;cases hk;exact h4
 rw[if_neg e]at hk
 exact h5 k u hk
theorem DW.uniq{S:St}{b:Nat}{e:TypeId}{c d:List Value}(h:DW S b e c)(k:DW S b e d):c=d:=by
 obtain⟨_,_,_,h⟩:=h
 obtain⟨_,_,_,k⟩:=k
 rw[h]at k
 cases k
 rfl
theorem A0.sc{α:Type}{e:TypeId}{z:Nat}{f:α→List Value}{S:St}{C:List α}{a:Option Addr}{n cap:Nat}(h:A0 e z f S (.slice a n cap) C){k j:Nat}{x y:α}(hk:nth C k=some x)(hj:nth C j=some y) :
  ∃b o cs,a=some ⟨b,o,none⟩∧n=C.length∧DW S b e cs∧takeN z (CH (o+k*z) cs)=some (f x)∧takeN z (CH (o+j*z) cs)=some (f y):=by
 obtain⟨b,o,cs,ha,hn,hr,ht⟩:=h.elem hk
 obtain⟨b2,o2,EH,FD,_,UW,ht2⟩:=h.elem hj
 rw[ha]at FD
 cases FD
 cases DW.uniq hr UW
 exact⟨b,o,cs,ha,hn,hr,ht,ht2⟩
theorem A8{α:Type}(D:List α)(x:α):(D++[x]).length=D.length+1:=by rw[DS];rfl
theorem ABP{P:Program}{K:BX}{n:Nat}{ro:Option Nat}{L:Env}{S:St}{Q:CV}{c:Code}(I:Env→St→Prop)(h:XE P K n ro c L S fun e L' S'=>(e= .normal∧I L' S')∨(e≠ .normal∧Q e L' S'))(hq:∀L' S',I L' S'→Q .normal L' S'):XE P K n ro c L S Q :=
 py h fun e L' S' hh=>by
  rcases hh with ⟨rfl,hi⟩|⟨_,hi⟩
  ·exact hq L' S' hi
  exact hi
end Go.Proofs.YtmfphenhpkgidaaGreatDoor
namespace Go.Proofs.YtmfphenhpkgidaaGreatDoor
open Go.Cm Go
set_option maxRecDepth 100000
variable{S:St}
def II(s:Sg)(a0 a1 a2 a3 a4 a5 a6 a7 a8 a9 E9 Ez:Bool):Sg:={kind:=s.kind,value:=bif a0 then s.value else 0,place:=bif a1 then s.place else 0,acc:=bif a2 then s.acc else 0,color:=bif a3 then s.color else false,BJ:=bif a4 then s.BJ else 0,Co:=bif a5 then s.Co else false,last:=bif a6 then s.last else false,mx:=bif a7 then s.mx else 0,md:=bif a7 then s.md else 0,tm:=bif a7 then s.tm else 0,pr:=bif a7 then s.pr else 0,Fa:=bif a8 then s.Fa else false,n:=bif a9 then s.n else 0,d:=bif E9 then s.d else 0,step:=bif Ez then s.step else 0,line:=bif Ez then s.line else 0}
noncomputable def c63:Code:=Tryz.f63.body.getD .skip
theorem AOW(s:Sg)(a0 a1 a2 a3 a4 a5 a6 a7 a8 a9 E9 Ez:Bool):CC Tryz.prog KK 63 [s.v,.agg #[.bool a0,.bool a1,.bool a2,.bool a3,.bool a4,.bool a5,.bool a6,.bool a7,.bool a8,.bool a9,.bool E9,.bool Ez]] S (fun v S'=>AL S S'∧v=(II s a0 a1 a2 a3 a4 a5 a6 a7 a8 a9 E9 Ez).v):=by
 refine Ce (c:=c63) (n:=70) Tryz.func63 rfl rfl rfl AB rfl rfl ?_
 have hl:=BE.start S
 refine zg ?_;refine bL hl fun B2 S2 hl=>?_;refine bL hl fun B3 S3 hl=>?_;refine aL hl [.int .i64 0,.int .i64 0,.int .i64 0,.int .i64 0,.bool false,.int .i64 0,.bool false,.bool false,.int .i64 0,.int .i64 0,.int .i64 0,.int .i64 0,.bool false,.int .i64 0,.int .i64 0,.int .i64 0,.int .i64 0] fun B4 S4 hl=>?_;refine zg ?_
 refine rr rfl (A9 rfl rfl (v:=AX [.int .i64 s.kind,.int .i64 0,.int .i64 0,.int .i64 0,.bool false,.int .i64 0,.bool false,.bool false,.int .i64 0,.int .i64 0,.int .i64 0,.int .i64 0,.bool false,.int .i64 0,.int .i64 0,.int .i64 0,.int .i64 0]) (by rfl)) ?_;refine aL hl [.int .i64 0,.int .i64 0,.int .i64 0,.int .i64 0,.bool false,.int .i64 0,.bool false,.bool false,.int .i64 0,.int .i64 0,.int .i64 0,.int .i64 0,.bool false,.int .i64 0,.int .i64 0,.int .i64 0,.int .i64 0] fun B5 S5 hl=>?_
 refine CN hl 0 rfl rfl rfl rfl rfl rfl rfl AB rfl ?_;intro S6 hl;refine zA ?_
 refine AG rfl (HV (L1:=[(2,ptrTo B2 0),(3,ptrTo B3 0),(4,ptrTo B4 0),(5,ptrTo B5 0)]) (fun S'=>BE S [S] S' [(B5,.cells [.int .i64 s.kind,.int .i64 (bif a0 then s.value else 0),.int .i64 0,.int .i64 0,.bool false,.int .i64 0,.bool false,.bool false,.int .i64 0,.int .i64 0,.int .i64 0,.int .i64 0,.bool false,.int .i64 0,.int .i64 0,.int .i64 0,.int .i64 0] 55 false true []),(B4,.cells [.int .i64 0,.int .i64 0,.int .i64 0,.int .i64 0,.bool false,.int .i64 0,.bool false,.bool false,.int .i64 0,.int .i64 0,.int .i64 0,.int .i64 0,.bool false,.int .i64 0,.int .i64 0,.int .i64 0,.int .i64 0] 55 false true []),(B3,.cells [.bool a0,.bool a1,.bool a2,.bool a3,.bool a4,.bool a5,.bool a6,.bool a7,.bool a8,.bool a9,.bool E9,.bool Ez] 106 false true []),(B2,.cells [.int .i64 s.kind,.int .i64 s.value,.int .i64 s.place,.int .i64 s.acc,.bool s.color,.int .i64 s.BJ,.bool s.Co,.bool s.last,.int .i64 s.mx,.int .i64 s.md,.int .i64 s.tm,.int .i64 s.pr,.bool s.Fa,.int .i64 s.n,.int .i64 s.d,.int .i64 s.step,.int .i64 s.line] 55 false true [])]) ?_ ?_)
 ·refine AG rfl (JG rfl AB ?_)
  refine zA ?_;refine DQ rfl rfl (fun h=>?_) (fun h=>?_)
  ·subst h
   refine zg ?_;refine CN hl 0 rfl rfl rfl rfl rfl rfl rfl AB rfl ?_;intro S1 hl
   exact Ak rfl ⟨rfl,sE,hl⟩
  subst h
  exact Ar rfl ⟨rfl,sE,hl⟩
 clear hl;intro S6 hl
 refine AG rfl (HV (L1:=[(2,ptrTo B2 0),(3,ptrTo B3 0),(4,ptrTo B4 0),(5,ptrTo B5 0)]) (fun S'=>BE S [S] S' [(B5,.cells [.int .i64 s.kind,.int .i64 (bif a0 then s.value else 0),.int .i64 (bif a1 then s.place else 0),.int .i64 0,.bool false,.int .i64 0,.bool false,.bool false,.int .i64 0,.int .i64 0,.int .i64 0,.int .i64 0,.bool false,.int .i64 0,.int .i64 0,.int .i64 0,.int .i64 0] 55 false true []),(B4,.cells [.int .i64 0,.int .i64 0,.int .i64 0,.int .i64 0,.bool false,.int .i64 0,.bool false,.bool false,.int .i64 0,.int .i64 0,.int .i64 0,.int .i64 0,.bool false,.int .i64 0,.int .i64 0,.int .i64 0,.int .i64 0] 55 false true []),(B3,.cells [.bool a0,.bool a1,.bool a2,.bool a3,.bool a4,.bool a5,.bool a6,.bool a7,.bool a8,.bool a9,.bool E9,.bool Ez] 106 false true []),(B2,.cells [.int .i64 s.kind,.int .i64 s.value,.int .i64 s.place,.int .i64 s.acc,.bool s.color,.int .i64 s.BJ,.bool s.Co,.bool s.last,.int .i64 s.mx,.int .i64 s.md,.int .i64 s.tm,.int .i64 s.pr,.bool s.Fa,.int .i64 s.n,.int .i64 s.d,.int .i64 s.step,.int .i64 s.line] 55 false true [])]) ?_ ?_)
 ·refine AG rfl (JG rfl AB ?_)
  refine zA ?_;refine DQ rfl rfl (fun h=>?_) (fun h=>?_)
  ·subst h
   refine zg ?_;refine CN hl 0 rfl rfl rfl rfl rfl rfl rfl AB rfl ?_;intro S1 hl
   exact Ak rfl ⟨rfl,sE,hl⟩
  subst h
  exact Ar rfl ⟨rfl,sE,hl⟩
 clear hl;intro S6 hl
 refine AG rfl (HV (L1:=[(2,ptrTo B2 0),(3,ptrTo B3 0),(4,ptrTo B4 0),(5,ptrTo B5 0)]) (fun S'=>BE S [S] S' [(B5,.cells [.int .i64 s.kind,.int .i64 (bif a0 then s.value else 0),.int .i64 (bif a1 then s.place else 0),.int .i64 (bif a2 then s.acc else 0),.bool false,.int .i64 0,.bool false,.bool false,.int .i64 0,.int .i64 0,.int .i64 0,.int .i64 0,.bool false,.int .i64 0,.int .i64 0,.int .i64 0,.int .i64 0] 55 false true []),(B4,.cells [.int .i64 0,.int .i64 0,.int .i64 0,.int .i64 0,.bool false,.int .i64 0,.bool false,.bool false,.int .i64 0,.int .i64 0,.int .i64 0,.int .i64 0,.bool false,.int .i64 0,.int .i64 0,.int .i64 0,.int .i64 0] 55 false true []),(B3,.cells [.bool a0,.bool a1,.bool a2,.bool a3,.bool a4,.bool a5,.bool a6,.bool a7,.bool a8,.bool a9,.bool E9,.bool Ez] 106 false true []),(B2,.cells [.int .i64 s.kind,.int .i64 s.value,.int .i64 s.place,.int .i64 s.acc,.bool s.color,.int .i64 s.BJ,.bool s.Co,.bool s.last,.int .i64 s.mx,.int .i64 s.md,.int .i64 s.tm,.int .i64 s.pr,.bool s.Fa,.int .i64 s.n,.int .i64 s.d,.int .i64 s.step,.int .i64 s.line] 55 false true [])]) ?_ ?_)
 ·refine AG rfl (JG rfl AB ?_)
  refine zA ?_;refine DQ rfl rfl (fun h=>?_) (fun h=>?_)
  ·subst h
   refine zg ?_;refine CN hl 0 rfl rfl rfl rfl rfl rfl rfl AB rfl ?_;intro S1 hl
   exact Ak rfl ⟨rfl,sE,hl⟩
  subst h
  exact Ar rfl ⟨rfl,sE,hl⟩
 clear hl;intro S6 hl
 refine AG rfl (HV (L1:=[(2,ptrTo B2 0),(3,ptrTo B3 0),(4,ptrTo B4 0),(5,ptrTo B5 0)]) (fun S'=>BE S [S] S' [(B5,.cells [.int .i64 s.kind,.int .i64 (bif a0 then s.value else 0),.int .i64 (bif a1 then s.place else 0),.int .i64 (bif a2 then s.acc else 0),.bool (bif a3 then s.color else false),.int .i64 0,.bool false,.bool false,.int .i64 0,.int .i64 0,.int .i64 0,.int .i64 0,.bool false,.int .i64 0,.int .i64 0,.int .i64 0,.int .i64 0] 55 false true []),(B4,.cells [.int .i64 0,.int .i64 0,.int .i64 0,.int .i64 0,.bool false,.int .i64 0,.bool false,.bool false,.int .i64 0,.int .i64 0,.int .i64 0,.int .i64 0,.bool false,.int .i64 0,.int .i64 0,.int .i64 0,.int .i64 0] 55 false true []),(B3,.cells [.bool a0,.bool a1,.bool a2,.bool a3,.bool a4,.bool a5,.bool a6,.bool a7,.bool a8,.bool a9,.bool E9,.bool Ez] 106 false true []),(B2,.cells [.int .i64 s.kind,.int .i64 s.value,.int .i64 s.place,.int .i64 s.acc,.bool s.color,.int .i64 s.BJ,.bool s.Co,.bool s.last,.int .i64 s.mx,.int .i64 s.md,.int .i64 s.tm,.int .i64 s.pr,.bool s.Fa,.int .i64 s.n,.int .i64 s.d,.int .i64 s.step,.int .i64 s.line] 55 false true [])]) ?_ ?_)
 ·refine AG rfl (JG rfl AB ?_)
  refine zA ?_;refine DQ rfl rfl (fun h=>?_) (fun h=>?_)
  ·subst h
   refine zg ?_;refine CN hl 0 rfl rfl rfl rfl rfl rfl rfl AB rfl ?_;intro S1 hl
   exact Ak rfl ⟨rfl,sE,hl⟩
  subst h
  exact Ar rfl ⟨rfl,sE,hl⟩
 clear hl;intro S6 hl
 refine AG rfl (HV (L1:=[(2,ptrTo B2 0),(3,ptrTo B3 0),(4,ptrTo B4 0),(5,ptrTo B5 0)]) (fun S'=>BE S [S] S' [(B5,.cells [.int .i64 s.kind,.int .i64 (bif a0 then s.value else 0),.int .i64 (bif a1 then s.place else 0),.int .i64 (bif a2 then s.acc else 0),.bool (bif a3 then s.color else false),.int .i64 (bif a4 then s.BJ else 0),.bool false,.bool false,.int .i64 0,.int .i64 0,.int .i64 0,.int .i64 0,.bool false,.int .i64 0,.int .i64 0,.int .i64 0,.int .i64 0] 55 false true []),(B4,.cells [.int .i64 0,.int .i64 0,.int .i64 0,.int .i64 0,.bool false,.int .i64 0,.bool false,.bool false,.int .i64 0,.int .i64 0,.int .i64 0,.int .i64 0,.bool false,.int .i64 0,.int .i64 0,.int .i64 0,.int .i64 0] 55 false true []),(B3,.cells [.bool a0,.bool a1,.bool a2,.bool a3,.bool a4,.bool a5,.bool a6,.bool a7,.bool a8,.bool a9,.bool E9,.bool Ez] 106 false true []),(B2,.cells [.int .i64 s.kind,.int .i64 s.value,.int .i64 s.place,.int .i64 s.acc,.bool s.color,.int .i64 s.BJ,.bool s.Co,.bool s.last,.int .i64 s.mx,.int .i64 s.md,.int .i64 s.tm,.int .i64 s.pr,.bool s.Fa,.int .i64 s.n,.int .i64 s.d,.int .i64 s.step,.int .i64 s.line] 55 false true [])]) ?_ ?_)
 ·refine AG rfl (JG rfl AB ?_)
  refine zA ?_;refine DQ rfl rfl (fun h=>?_) (fun h=>?_)
  ·subst h
   refine zg ?_;refine CN hl 0 rfl rfl rfl rfl rfl rfl rfl AB rfl ?_;intro S1 hl
   exact Ak rfl ⟨rfl,sE,hl⟩
  subst h
  exact Ar rfl ⟨rfl,sE,hl⟩
 clear hl;intro S6 hl
 refine AG rfl (HV (L1:=[(2,ptrTo B2 0),(3,ptrTo B3 0),(4,ptrTo B4 0),(5,ptrTo B5 0)]) (fun S'=>BE S [S] S' [(B5,.cells [.int .i64 s.kind,.int .i64 (bif a0 then s.value else 0),.int .i64 (bif a1 then s.place else 0),.int .i64 (bif a2 then s.acc else 0),.bool (bif a3 then s.color else false),.int .i64 (bif a4 then s.BJ else 0),.bool (bif a5 then s.Co else false),.bool false,.int .i64 0,.int .i64 0,.int .i64 0,.int .i64 0,.bool false,.int .i64 0,.int .i64 0,.int .i64 0,.int .i64 0] 55 false true []),(B4,.cells [.int .i64 0,.int .i64 0,.int .i64 0,.int .i64 0,.bool false,.int .i64 0,.bool false,.bool false,.int .i64 0,.int .i64 0,.int .i64 0,.int .i64 0,.bool false,.int .i64 0,.int .i64 0,.int .i64 0,.int .i64 0] 55 false true []),(B3,.cells [.bool a0,.bool a1,.bool a2,.bool a3,.bool a4,.bool a5,.bool a6,.bool a7,.bool a8,.bool a9,.bool E9,.bool Ez] 106 false true []),(B2,.cells [.int .i64 s.kind,.int .i64 s.value,.int .i64 s.place,.int .i64 s.acc,.bool s.color,.int .i64 s.BJ,.bool s.Co,.bool s.last,.int .i64 s.mx,.int .i64 s.md,.int .i64 s.tm,.int .i64 s.pr,.bool s.Fa,.int .i64 s.n,.int .i64 s.d,.int .i64 s.step,.int .i64 s.line] 55 false true [])]) ?_ ?_)
 ·refine AG rfl (JG rfl AB ?_)
  refine zA ?_;refine DQ rfl rfl (fun h=>?_) (fun h=>?_)
  ·subst h
   refine zg ?_;refine CN hl 0 rfl rfl rfl rfl rfl rfl rfl AB rfl ?_;intro S1 hl
   exact Ak rfl ⟨rfl,sE,hl⟩
  subst h
  exact Ar rfl ⟨rfl,sE,hl⟩
 clear hl;intro S6 hl
 refine AG rfl (HV (L1:=[(2,ptrTo B2 0),(3,ptrTo B3 0),(4,ptrTo B4 0),(5,ptrTo B5 0)]) (fun S'=>BE S [S] S' [(B5,.cells [.int .i64 s.kind,.int .i64 (bif a0 then s.value else 0),.int .i64 (bif a1 then s.place else 0),.int .i64 (bif a2 then s.acc else 0),.bool (bif a3 then s.color else false),.int .i64 (bif a4 then s.BJ else 0),.bool (bif a5 then s.Co else false),.bool (bif a6 then s.last else false),.int .i64 0,.int .i64 0,.int .i64 0,.int .i64 0,.bool false,.int .i64 0,.int .i64 0,.int .i64 0,.int .i64 0] 55 false true []),(B4,.cells [.int .i64 0,.int .i64 0,.int .i64 0,.int .i64 0,.bool false,.int .i64 0,.bool false,.bool false,.int .i64 0,.int .i64 0,.int .i64 0,.int .i64 0,.bool false,.int .i64 0,.int .i64 0,.int .i64 0,.int .i64 0] 55 false true []),(B3,.cells [.bool a0,.bool a1,.bool a2,.bool a3,.bool a4,.bool a5,.bool a6,.bool a7,.bool a8,.bool a9,.bool E9,.bool Ez] 106 false true []),(B2,.cells [.int .i64 s.kind,.int .i64 s.value,.int .i64 s.place,.int .i64 s.acc,.bool s.color,.int .i64 s.BJ,.bool s.Co,.bool s.last,.int .i64 s.mx,.int .i64 s.md,.int .i64 s.tm,.int .i64 s.pr,.bool s.Fa,.int .i64 s.n,.int .i64 s.d,.int .i64 s.step,.int .i64 s.line] 55 false true [])]) ?_ ?_)
 ·refine AG rfl (JG rfl AB ?_)
  refine zA ?_;refine DQ rfl rfl (fun h=>?_) (fun h=>?_)
  ·subst h
   refine zg ?_;refine CN hl 0 rfl rfl rfl rfl rfl rfl rfl AB rfl ?_;intro S1 hl
   exact Ak rfl ⟨rfl,sE,hl⟩
  subst h
  exact Ar rfl ⟨rfl,sE,hl⟩
 clear hl;intro S6 hl
 refine AG rfl (HV (L1:=[(2,ptrTo B2 0),(3,ptrTo B3 0),(4,ptrTo B4 0),(5,ptrTo B5 0)]) (fun S'=>BE S [S] S' [(B5,.cells [.int .i64 s.kind,.int .i64 (bif a0 then s.value else 0),.int .i64 (bif a1 then s.place else 0),.int .i64 (bif a2 then s.acc else 0),.bool (bif a3 then s.color else false),.int .i64 (bif a4 then s.BJ else 0),.bool (bif a5 then s.Co else false),.bool (bif a6 then s.last else false),.int .i64 (bif a7 then s.mx else 0),.int .i64 (bif a7 then s.md else 0),.int .i64 (bif a7 then s.tm else 0),.int .i64 (bif a7 then s.pr else 0),.bool false,.int .i64 0,.int .i64 0,.int .i64 0,.int .i64 0] 55 false true []),(B4,.cells [.int .i64 0,.int .i64 0,.int .i64 0,.int .i64 0,.bool false,.int .i64 0,.bool false,.bool false,.int .i64 0,.int .i64 0,.int .i64 0,.int .i64 0,.bool false,.int .i64 0,.int .i64 0,.int .i64 0,.int .i64 0] 55 false true []),(B3,.cells [.bool a0,.bool a1,.bool a2,.bool a3,.bool a4,.bool a5,.bool a6,.bool a7,.bool a8,.bool a9,.bool E9,.bool Ez] 106 false true []),(B2,.cells [.int .i64 s.kind,.int .i64 s.value,.int .i64 s.place,.int .i64 s.acc,.bool s.color,.int .i64 s.BJ,.bool s.Co,.bool s.last,.int .i64 s.mx,.int .i64 s.md,.int .i64 s.tm,.int .i64 s.pr,.bool s.Fa,.int .i64 s.n,.int .i64 s.d,.int .i64 s.step,.int .i64 s.line] 55 false true [])]) ?_ ?_)
 ·refine AG rfl (JG rfl AB ?_)
  refine zA ?_;refine DQ rfl rfl (fun h=>?_) (fun h=>?_)
  ·subst h
   refine zg ?_;refine CN hl 0 rfl rfl rfl rfl rfl rfl rfl AB rfl ?_;intro S1 hl
   exact Ak rfl ⟨rfl,sE,hl⟩
  subst h
  exact Ar rfl ⟨rfl,sE,hl⟩
 clear hl;intro S6 hl
 refine AG rfl (HV (L1:=[(2,ptrTo B2 0),(3,ptrTo B3 0),(4,ptrTo B4 0),(5,ptrTo B5 0)]) (fun S'=>BE S [S] S' [(B5,.cells [.int .i64 s.kind,.int .i64 (bif a0 then s.value else 0),.int .i64 (bif a1 then s.place else 0),.int .i64 (bif a2 then s.acc else 0),.bool (bif a3 then s.color else false),.int .i64 (bif a4 then s.BJ else 0),.bool (bif a5 then s.Co else false),.bool (bif a6 then s.last else false),.int .i64 (bif a7 then s.mx else 0),.int .i64 (bif a7 then s.md else 0),.int .i64 (bif a7 then s.tm else 0),.int .i64 (bif a7 then s.pr else 0),.bool (bif a8 then s.Fa else false),.int .i64 0,.int .i64 0,.int .i64 0,.int .i64 0] 55 false true []),(B4,.cells [.int .i64 0,.int .i64 0,.int .i64 0,.int .i64 0,.bool false,.int .i64 0,.bool false,.bool false,.int .i64 0,.int .i64 0,.int .i64 0,.int .i64 0,.bool false,.int .i64 0,.int .i64 0,.int .i64 0,.int .i64 0] 55 false true []),(B3,.cells [.bool a0,.bool a1,.bool a2,.bool a3,.bool a4,.bool a5,.bool a6,.bool a7,.bool a8,.bool a9,.bool E9,.bool Ez] 106 false true []),(B2,.cells [.int .i64 s.kind,.int .i64 s.value,.int .i64 s.place,.int .i64 s.acc,.bool s.color,.int .i64 s.BJ,.bool s.Co,.bool s.last,.int .i64 s.mx,.int .i64 s.md,.int .i64 s.tm,.int .i64 s.pr,.bool s.Fa,.int .i64 s.n,.int .i64 s.d,.int .i64 s.step,.int .i64 s.line] 55 false true [])]) ?_ ?_)
 ·refine AG rfl (JG rfl AB ?_)
  refine zA ?_;refine DQ rfl rfl (fun h=>?_) (fun h=>?_)
  ·subst h
   refine zg ?_;refine CN hl 0 rfl rfl rfl rfl rfl rfl rfl AB rfl ?_;intro S1 hl
   exact Ak rfl ⟨rfl,sE,hl⟩
  subst h
  exact Ar rfl ⟨rfl,sE,hl⟩
 clear hl;intro S6 hl
 refine AG rfl (HV (L1:=[(2,ptrTo B2 0),(3,ptrTo B3 0),(4,ptrTo B4 0),(5,ptrTo B5 0)]) (fun S'=>BE S [S] S' [(B5,.cells [.int .i64 s.kind,.int .i64 (bif a0 then s.value else 0),.int .i64 (bif a1 then s.place else 0),.int .i64 (bif a2 then s.acc else 0),.bool (bif a3 then s.color else false),.int .i64 (bif a4 then s.BJ else 0),.bool (bif a5 then s.Co else false),.bool (bif a6 then s.last else false),.int .i64 (bif a7 then s.mx else 0),.int .i64 (bif a7 then s.md else 0),.int .i64 (bif a7 then s.tm else 0),.int .i64 (bif a7 then s.pr else 0),.bool (bif a8 then s.Fa else false),.int .i64 (bif a9 then s.n else 0),.int .i64 0,.int .i64 0,.int .i64 0] 55 false true []),(B4,.cells [.int .i64 0,.int .i64 0,.int .i64 0,.int .i64 0,.bool false,.int .i64 0,.bool false,.bool false,.int .i64 0,.int .i64 0,.int .i64 0,.int .i64 0,.bool false,.int .i64 0,.int .i64 0,.int .i64 0,.int .i64 0] 55 false true []),(B3,.cells [.bool a0,.bool a1,.bool a2,.bool a3,.bool a4,.bool a5,.bool a6,.bool a7,.bool a8,.bool a9,.bool E9,.bool Ez] 106 false true []),(B2,.cells [.int .i64 s.kind,.int .i64 s.value,.int .i64 s.place,.int .i64 s.acc,.bool s.color,.int .i64 s.BJ,.bool s.Co,.bool s.last,.int .i64 s.mx,.int .i64 s.md,.int .i64 s.tm,.int .i64 s.pr,.bool s.Fa,.int .i64 s.n,.int .i64 s.d,.int .i64 s.step,.int .i64 s.line] 55 false true [])]) ?_ ?_)
 ·refine AG rfl (JG rfl AB ?_)
  refine zA ?_;refine DQ rfl rfl (fun h=>?_) (fun h=>?_)
  ·subst h
   refine zg ?_;refine CN hl 0 rfl rfl rfl rfl rfl rfl rfl AB rfl ?_;intro S1 hl
   exact Ak rfl ⟨rfl,sE,hl⟩
  subst h
  exact Ar rfl ⟨rfl,sE,hl⟩
 clear hl;intro S6 hl
 refine AG rfl (HV (L1:=[(2,ptrTo B2 0),(3,ptrTo B3 0),(4,ptrTo B4 0),(5,ptrTo B5 0)]) (fun S'=>BE S [S] S' [(B5,.cells [.int .i64 s.kind,.int .i64 (bif a0 then s.value else 0),.int .i64 (bif a1 then s.place else 0),.int .i64 (bif a2 then s.acc else 0),.bool (bif a3 then s.color else false),.int .i64 (bif a4 then s.BJ else 0),.bool (bif a5 then s.Co else false),.bool (bif a6 then s.last else false),.int .i64 (bif a7 then s.mx else 0),.int .i64 (bif a7 then s.md else 0),.int .i64 (bif a7 then s.tm else 0),.int .i64 (bif a7 then s.pr else 0),.bool (bif a8 then s.Fa else false),.int .i64 (bif a9 then s.n else 0),.int .i64 (bif E9 then s.d else 0),.int .i64 0,.int .i64 0] 55 false true []),(B4,.cells [.int .i64 0,.int .i64 0,.int .i64 0,.int .i64 0,.bool false,.int .i64 0,.bool false,.bool false,.int .i64 0,.int .i64 0,.int .i64 0,.int .i64 0,.bool false,.int .i64 0,.int .i64 0,.int .i64 0,.int .i64 0] 55 false true []),(B3,.cells [.bool a0,.bool a1,.bool a2,.bool a3,.bool a4,.bool a5,.bool a6,.bool a7,.bool a8,.bool a9,.bool E9,.bool Ez] 106 false true []),(B2,.cells [.int .i64 s.kind,.int .i64 s.value,.int .i64 s.place,.int .i64 s.acc,.bool s.color,.int .i64 s.BJ,.bool s.Co,.bool s.last,.int .i64 s.mx,.int .i64 s.md,.int .i64 s.tm,.int .i64 s.pr,.bool s.Fa,.int .i64 s.n,.int .i64 s.d,.int .i64 s.step,.int .i64 s.line] 55 false true [])]) ?_ ?_)
 ·refine AG rfl (JG rfl AB ?_)
  refine zA ?_;refine DQ rfl rfl (fun h=>?_) (fun h=>?_)
  ·subst h
   refine zg ?_;refine CN hl 0 rfl rfl rfl rfl rfl rfl rfl AB rfl ?_;intro S1 hl
   exact Ak rfl ⟨rfl,sE,hl⟩
  subst h
  exact Ar rfl ⟨rfl,sE,hl⟩
 clear hl;intro S6 hl
 refine AG rfl (HV (L1:=[(2,ptrTo B2 0),(3,ptrTo B3 0),(4,ptrTo B4 0),(5,ptrTo B5 0)]) (fun S'=>BE S [S] S' [(B5,.cells [.int .i64 s.kind,.int .i64 (bif a0 then s.value else 0),.int .i64 (bif a1 then s.place else 0),.int .i64 (bif a2 then s.acc else 0),.bool (bif a3 then s.color else false),.int .i64 (bif a4 then s.BJ else 0),.bool (bif a5 then s.Co else false),.bool (bif a6 then s.last else false),.int .i64 (bif a7 then s.mx else 0),.int .i64 (bif a7 then s.md else 0),.int .i64 (bif a7 then s.tm else 0),.int .i64 (bif a7 then s.pr else 0),.bool (bif a8 then s.Fa else false),.int .i64 (bif a9 then s.n else 0),.int .i64 (bif E9 then s.d else 0),.int .i64 (bif Ez then s.step else 0),.int .i64 (bif Ez then s.line else 0)] 55 false true []),(B4,.cells [.int .i64 0,.int .i64 0,.int .i64 0,.int .i64 0,.bool false,.int .i64 0,.bool false,.bool false,.int .i64 0,.int .i64 0,.int .i64 0,.int .i64 0,.bool false,.int .i64 0,.int .i64 0,.int .i64 0,.int .i64 0] 55 false true []),(B3,.cells [.bool a0,.bool a1,.bool a2,.bool a3,.bool a4,.bool a5,.bool a6,.bool a7,.bool a8,.bool a9,.bool E9,.bool Ez] 106 false true []),(B2,.cells [.int .i64 s.kind,.int .i64 s.value,.int .i64 s.place,.int .i64 s.acc,.bool s.color,.int .i64 s.BJ,.bool s.Co,.bool s.last,.int .i64 s.mx,.int .i64 s.md,.int .i64 s.tm,.int .i64 s.pr,.bool s.Fa,.int .i64 s.n,.int .i64 s.d,.int .i64 s.step,.int .i64 s.line] 55 false true [])]) ?_ ?_)
 ·refine AG rfl (JG rfl AB ?_)
  refine zA ?_;refine DQ rfl rfl (fun h=>?_) (fun h=>?_)
  ·subst h
   refine zg ?_;refine CN hl 0 rfl rfl rfl rfl rfl rfl rfl AB rfl ?_;intro S1 hl
   exact Ak rfl ⟨rfl,sE,hl⟩
  subst h
  exact Ar rfl ⟨rfl,sE,hl⟩
 clear hl;intro S6 hl
 refine zg ?_;refine CN hl 1 rfl rfl rfl rfl rfl rfl rfl AB rfl ?_;intro S1 hl;refine zg ?_
 exact BA (Bm rfl (CD (z:=17) AB AB (hl.get 1 rfl) rfl) rfl) ⟨hl.AD,rfl⟩
noncomputable def c88:Code:=Tryz.f88.body.getD .skip
theorem LZ(a b c:Int):CC Tryz.prog KK 88 [.int .i64 a,.int .i64 b,.int .i64 c] S (fun v S'=>AL S S'∧v= .bool (decide (b≤a)&&decide (a≤c))):=by
 refine Ce (c:=c88) (n:=15) Tryz.func88 rfl rfl rfl AB rfl rfl ?_
 have hl:=BE.start S
 refine zg ?_;refine AZ (d:=10) rfl (fun Bs=>?_) (fun Bs=>?_)
 ·
  refine zg ?_
  refine y1 rfl ⟨hl.AD,congrArg Value.bool (by first|(simp[Bs];done)|(simp at *;simp[*];done)|(simp at *;omega))⟩
 refine zg ?_
 refine y1 rfl ⟨hl.AD,congrArg Value.bool (by first|(simp[Bs];done)|(simp at *;simp[*];done)|(simp at *;omega))⟩
def Au(s:Sg)(a0 a1 a2 a4 E9 Ez:Bool):Bool:=!((a0&&!(decide (1≤s.value)&&decide (s.value≤8)))||(a1&&!(decide (-4≤s.place)&&decide (s.place≤12)))||(a2&&!(decide (-1≤s.acc)&&decide (s.acc≤2)))||(a4&&!(decide (0≤s.BJ)&&decide (s.BJ≤3)))||(E9&&(!(decide (1≤s.n)&&decide (s.n≤100))||!(decide (1≤s.d)&&decide (s.d≤100))))||(Ez&&(((s.step !=0)&&(s.step !=3)&&(s.step !=4))||!(decide (1≤s.line)&&decide (s.line≤5))))||((s.kind==8)&&!(decide (0≤s.n)&&decide (s.n≤2)))||((s.kind==10)&&!(decide (2≤s.n)&&decide (s.n≤4))))
noncomputable def c65:Code:=Tryz.f65.body.getD .skip
theorem AOY(s:Sg)(a0 a1 a2 a3 a4 a5 a6 a7 a8 a9 E9 Ez:Bool):CC Tryz.prog KK 65 [s.v,.agg #[.bool a0,.bool a1,.bool a2,.bool a3,.bool a4,.bool a5,.bool a6,.bool a7,.bool a8,.bool a9,.bool E9,.bool Ez]] S (fun v S'=>AL S S'∧v= .bool (Au s a0 a1 a2 a4 E9 Ez)):=by
 refine Ce (c:=c65) (n:=104) Tryz.func65 rfl rfl rfl AB rfl rfl ?_
 have hl:=BE.start S
 refine zg ?_;refine bL hl fun B2 S2 hl=>?_;refine bL hl fun B3 S3 hl=>?_;refine zA ?_;refine AG rfl ?_;refine Az rfl ?_;refine AG rfl (F' hl [(5,.bool (a0&&!(decide (1≤s.value)&&decide (s.value≤8)))),(3,ptrTo B3 0),(2,ptrTo B2 0)] ?_ ?_)
 ·
  refine zg ?_;refine AZ (d:=8) rfl (fun h8=>?_) (fun h8=>?_)
  ·
   refine zg ?_
   refine zc hl rfl (LZ _ _ _) ?_;rintro v S1 AM rfl hl
   refine rr rfl (BY rfl rfl rfl) ?_;refine zg ?_
   exact⟨rfl,⟨bl (by first|(simp[h8];done)|(simp only[h8,Ag])),rfl,rfl,trivial⟩,hl⟩
  refine zg ?_
  exact⟨rfl,⟨bl (by first|(simp[h8];done)|(simp only[h8,Ag])),rfl,rfl,trivial⟩,hl⟩
 intro S1 hl
 refine zg ?_
 constructor<;>intro h5
 ·
  refine zg ?_
  refine y1 rfl ⟨hl.AD,congrArg Value.bool (by simp only[Au,h5];rfl)⟩
 refine AG rfl (F' hl [(14,.bool (a1&&!(decide (-4≤s.place)&&decide (s.place≤12)))),(3,ptrTo B3 0),(2,ptrTo B2 0)] ?_ ?_)
 ·
  refine zg ?_;refine AZ (d:=17) rfl (fun Dl=>?_) (fun Dl=>?_)
  ·
   refine zg ?_
   refine zc hl rfl (LZ _ _ _) ?_;rintro v S1 AM rfl hl
   refine rr rfl (BY rfl rfl rfl) ?_;refine zg ?_
   exact⟨rfl,⟨bl (by first|(simp[Dl];done)|(simp only[Dl,Ag])),rfl,rfl,trivial⟩,hl⟩
  refine zg ?_
  exact⟨rfl,⟨bl (by first|(simp[Dl];done)|(simp only[Dl,Ag])),rfl,rfl,trivial⟩,hl⟩
 intro S1 hl
 refine zg ?_
 constructor<;>intro BZ
 ·
  refine zg ?_
  refine y1 rfl ⟨hl.AD,congrArg Value.bool (by simp only[Au,BZ,h5];rfl)⟩
 refine AG rfl (F' hl [(23,.bool (a2&&!(decide (-1≤s.acc)&&decide (s.acc≤2)))),(3,ptrTo B3 0),(2,ptrTo B2 0)] ?_ ?_)
 ·
  refine zg ?_;refine AZ (d:=26) rfl (fun C3=>?_) (fun C3=>?_)
  ·
   refine zg ?_
   refine zc hl rfl (LZ _ _ _) ?_;rintro v S1 AM rfl hl
   refine rr rfl (BY rfl rfl rfl) ?_;refine zg ?_
   exact⟨rfl,⟨bl (by first|(simp[C3];done)|(simp only[C3,Ag])),rfl,rfl,trivial⟩,hl⟩
  refine zg ?_
  exact⟨rfl,⟨bl (by first|(simp[C3];done)|(simp only[C3,Ag])),rfl,rfl,trivial⟩,hl⟩
 intro S1 hl
 refine zg ?_
 constructor<;>intro DG
 ·
  refine zg ?_
  refine y1 rfl ⟨hl.AD,congrArg Value.bool (by simp only[Au,DG,BZ,h5];rfl)⟩
 refine AG rfl (F' hl [(32,.bool (a4&&!(decide (0≤s.BJ)&&decide (s.BJ≤3)))),(3,ptrTo B3 0),(2,ptrTo B2 0)] ?_ ?_)
 ·
  refine zg ?_;refine AZ (d:=35) rfl (fun Dz=>?_) (fun Dz=>?_)
  ·
   refine zg ?_
   refine zc hl rfl (LZ _ _ _) ?_;rintro v S1 AM rfl hl
   refine rr rfl (BY rfl rfl rfl) ?_;refine zg ?_
   exact⟨rfl,⟨bl (by first|(simp[Dz];done)|(simp only[Dz,Ag])),rfl,rfl,trivial⟩,hl⟩
  refine zg ?_
  exact⟨rfl,⟨bl (by first|(simp[Dz];done)|(simp only[Dz,Ag])),rfl,rfl,trivial⟩,hl⟩
 intro S1 hl
 refine zg ?_
 constructor<;>intro E1
 ·
  refine zg ?_
  refine y1 rfl ⟨hl.AD,congrArg Value.bool (by simp only[Au,E1,DG,BZ,h5];rfl)⟩
 refine AG rfl (F' hl [(41,.bool (E9&&(!(decide (1≤s.n)&&decide (s.n≤100))||!(decide (1≤s.d)&&decide (s.d≤100))))),(3,ptrTo B3 0),(2,ptrTo B2 0)] ?_ ?_)
 ·
  refine zg ?_;refine AZ (d:=44) rfl (fun Gz=>?_) (fun Gz=>?_)
  ·
   refine zg ?_
   refine zc hl rfl (LZ _ _ _) ?_;rintro v S1 AM rfl hl
   refine rr rfl (BY rfl rfl rfl) ?_;refine zg ?_;refine AZ (d:=49) rfl (fun H6=>?_) (fun H6=>?_)
   ·
    refine zg ?_
    exact⟨rfl,⟨bl (by first|(simp[H6,Gz];done)|(simp only[H6,Gz,Ag])),rfl,rfl,trivial⟩,hl⟩
   refine zg ?_
   refine zc hl rfl (LZ _ _ _) ?_;rintro v S1 AM rfl hl
   refine rr rfl (BY rfl rfl rfl) ?_;refine zg ?_
   exact⟨rfl,⟨bl (by first|(simp[H6,Gz];done)|(simp only[H6,Gz,Ag])),rfl,rfl,trivial⟩,hl⟩
  refine zg ?_
  exact⟨rfl,⟨bl (by first|(simp[Gz];done)|(simp only[Gz,Ag])),rfl,rfl,trivial⟩,hl⟩
 intro S1 hl
 refine zg ?_
 constructor<;>intro FT
 ·
  refine zg ?_
  refine y1 rfl ⟨hl.AD,congrArg Value.bool (by simp only[Au,FT,E1,DG,BZ,h5];rfl)⟩
 refine AG rfl (F' hl [(56,.bool (Ez&&(((s.step !=0)&&(s.step !=3)&&(s.step !=4))||!(decide (1≤s.line)&&decide (s.line≤5))))),(3,ptrTo B3 0),(2,ptrTo B2 0)] ?_ ?_)
 ·
  refine zg ?_;refine AZ (d:=59) rfl (fun Iq=>?_) (fun Iq=>?_)
  ·
   refine zg ?_;refine AZ (d:=64) rfl (fun EV=>?_) (fun EV=>?_)
   ·
    refine zg ?_;refine AZ (d:=70) rfl (fun Ge=>?_) (fun Ge=>?_)
    ·
     refine zg ?_;refine AZ (d:=76) rfl (fun JT=>?_) (fun JT=>?_)
     ·
      refine zg ?_
      exact⟨rfl,⟨bl (by first|(simp[JT,Ge,EV,Iq];done)|(simp only[JT,Ge,EV,Iq,Ag])),rfl,rfl,trivial⟩,hl⟩
     refine zg ?_
     refine zc hl rfl (LZ _ _ _) ?_;rintro v S1 AM rfl hl
     refine rr rfl (BY rfl rfl rfl) ?_;refine zg ?_
     exact⟨rfl,⟨bl (by first|(simp[JT,Ge,EV,Iq];done)|(simp only[JT,Ge,EV,Iq,Ag])),rfl,rfl,trivial⟩,hl⟩
    refine zg ?_
    refine zc hl rfl (LZ _ _ _) ?_;rintro v S1 AM rfl hl
    refine rr rfl (BY rfl rfl rfl) ?_;refine zg ?_
    exact⟨rfl,⟨bl (by first|(simp[Ge,EV,Iq];done)|(simp only[Ge,EV,Iq,Ag])),rfl,rfl,trivial⟩,hl⟩
   refine zg ?_
   refine zc hl rfl (LZ _ _ _) ?_;rintro v S1 AM rfl hl
   refine rr rfl (BY rfl rfl rfl) ?_;refine zg ?_
   exact⟨rfl,⟨bl (by first|(simp[EV,Iq];done)|(simp only[EV,Iq,Ag])),rfl,rfl,trivial⟩,hl⟩
  refine zg ?_
  exact⟨rfl,⟨bl (by first|(simp[Iq];done)|(simp only[Iq,Ag])),rfl,rfl,trivial⟩,hl⟩
 intro S1 hl
 refine zg ?_
 constructor<;>intro DP
 ·
  refine zg ?_
  refine y1 rfl ⟨hl.AD,congrArg Value.bool (by simp only[Au,DP,FT,E1,DG,BZ,h5];rfl)⟩
 refine AG rfl (F' hl [(84,.bool ((s.kind==8)&&!(decide (0≤s.n)&&decide (s.n≤2)))),(3,ptrTo B3 0),(2,ptrTo B2 0)] ?_ ?_)
 ·
  refine zg ?_;refine AZ (d:=88) rfl (fun O2=>?_) (fun O2=>?_)
  ·
   refine zg ?_
   refine zc hl rfl (LZ _ _ _) ?_;rintro v S1 AM rfl hl
   refine rr rfl (BY rfl rfl rfl) ?_;refine zg ?_
   exact⟨rfl,⟨bl (by first|(simp[O2];done)|(simp only[O2,Ag])),rfl,rfl,trivial⟩,hl⟩
  refine zg ?_
  exact⟨rfl,⟨bl (by first|(simp[O2];done)|(simp only[O2,Ag])),rfl,rfl,trivial⟩,hl⟩
 intro S1 hl
 refine zg ?_
 constructor<;>intro Nc
 ·
  refine zg ?_
  refine y1 rfl ⟨hl.AD,congrArg Value.bool (by simp only[Au,Nc,DP,FT,E1,DG,BZ,h5];rfl)⟩
 refine AG rfl (F' hl [(94,.bool ((s.kind==10)&&!(decide (2≤s.n)&&decide (s.n≤4)))),(3,ptrTo B3 0),(2,ptrTo B2 0)] ?_ ?_)
 ·
  refine zg ?_;refine AZ (d:=98) rfl (fun Wl=>?_) (fun Wl=>?_)
  ·
   refine zg ?_
   refine zc hl rfl (LZ _ _ _) ?_;rintro v S1 AM rfl hl
   refine rr rfl (BY rfl rfl rfl) ?_;refine zg ?_
   exact⟨rfl,⟨bl (by first|(simp[Wl];done)|(simp only[Wl,Ag])),rfl,rfl,trivial⟩,hl⟩
  refine zg ?_
  exact⟨rfl,⟨bl (by first|(simp[Wl];done)|(simp only[Wl,Ag])),rfl,rfl,trivial⟩,hl⟩
 intro S1 hl
 refine zg ?_
 constructor<;>intro Qs
 ·
  refine zg ?_
  refine y1 rfl ⟨hl.AD,congrArg Value.bool (by simp only[Au,Qs,Nc,DP,FT,E1,DG,BZ,h5];rfl)⟩
 refine zg ?_
 refine AR ((z1 rfl ⟨hl.AD,congrArg Value.bool (by simp only[Au,Qs,Nc,DP,FT,E1,DG,BZ,h5];rfl)⟩))
end Go.Proofs.YtmfphenhpkgidaaGreatDoor
namespace Go.Proofs.YtmfphenhpkgidaaGreatDoor
open Go.Cm Go
set_option maxRecDepth 100000
variable{S:St}
noncomputable def c87:Code:=Tryz.f87.body.getD .skip
theorem AOj(a b c d:Int):CC Tryz.prog KK 87 [AX [.int .i64 a,.int .i64 b,.int .i64 c,.int .i64 d]] S (fun v S'=>AL S S'∧v=AX [.int .i64 a,.int .i64 b,.int .i64 c,.int .i64 d]):=by
 refine Ce (c:=c87) (n:=12) Tryz.func87 rfl rfl rfl AB rfl rfl ?_
 have hl:=BE.start S
 refine zg ?_;refine bL hl fun B1 S1 hl=>?_;refine aL hl [.int .i64 0,.int .i64 0,.int .i64 0,.int .i64 0] fun B2 S2 hl=>?_;refine zg ?_;refine rr rfl (A9 rfl rfl (v:=AX [.int .i64 a,.int .i64 b,.int .i64 c,.int .i64 d]) (by rfl)) ?_;refine CN hl 0 rfl rfl rfl rfl rfl rfl rfl AB rfl ?_;intro S1 hl;refine zg ?_
 refine BA (Bm rfl (CD (z:=4) AB AB (hl.get 0 rfl) rfl) rfl) ⟨hl.AD,rfl⟩
def KV(p:Int):Bool:=p==2||p==3
def GD(a b c d:Int)(i:Nat):Int:=match i with
 |0=>a
 |1=>b
 |2=>c
 |_=>d
def Gi(a b c d:Int):Int:=bif KV a&&KV b&&KV c&&KV d then 0 else 12
theorem xW{a b c d:Int}{i:Nat}(h:KV (GD a b c d i)=false):Gi a b c d=12:=by
 unfold Gi
 match i,h with
 |0,h=>simp only[GD]at h;simp[h]
 |1,h=>simp only[GD]at h;simp[h]
 |2,h=>simp only[GD]at h;simp[h]
 |_+3,h=>simp only[GD]at h;simp[h]
theorem xX{a b c d:Int}(h:∀i,i<4→KV (GD a b c d i)=true):Gi a b c d=0:=by
 unfold Gi
 have h0:=h 0 AA;have h1:=h 1 AA;have h2:=h 2 AA;have h3:=h 3 AA
 simp only[GD]at h0 h1 h2 h3
 simp[h0,h1,h2,h3]
theorem ek{a b c d:Int}:∀{i:Nat},i<4→nth [Value.int .i64 a,.int .i64 b,.int .i64 c,.int .i64 d] ((i:Int).toNat*1)=some (.int .i64 (GD a b c d i))
 |0,_=>rfl
 |1,_=>rfl
 |2,_=>rfl
 |3,_=>rfl
noncomputable def c64:Code:=Tryz.f64.body.getD .skip
theorem AOX(a b c d:Int):CC Tryz.prog KK 64 [AX [.int .i64 a,.int .i64 b,.int .i64 c,.int .i64 d]] S (fun v S'=>AL S S'∧v= .int .i64 (Gi a b c d)):=by
 refine Ce (c:=c64) (n:=17) Tryz.func64 rfl rfl rfl AB rfl rfl ?_
 have hl:=BE.start S
 refine zg ?_;refine bL hl fun B1 S1 hl=>?_;refine zg ?_
 refine zc hl rfl (AOj _ _ _ _) ?_;rintro v S1 AM rfl hl
 refine zA ?_;refine Az rfl ?_
 -- LOOP
 refine AK (L':=[(7,.int .i64 0),(6,AX [.int .i64 a,.int .i64 b,.int .i64 c,.int .i64 d])]) sE ?_
 refine A2 rfl (fun m L S'=>∃i:Nat,i≤4∧m=4-i∧Af [(7,.int .i64 (i:Int)),(6,AX [.int .i64 a,.int .i64 b,.int .i64 c,.int .i64 d])] L∧(∀j,j<i→KV (GD a b c d j)=true)∧AL S S') ?_ (m:=4) ⟨0,AA,rfl,sE,fun j hj=>by omega,hl.AD⟩
 clear hl;rintro m L S' ⟨i,hi,rfl,hs,BI,hk⟩;refine AK hs ?_
 refine zg ?_
 constructor<;>intro h8
 ·
  refine zg ?_;refine rr rfl (Pe rfl rfl rfl (AHd (z:=1) (len:=4) (i:=(i:Int)) (cs:=[Value.int .i64 a,.int .i64 b,.int .i64 c,.int .i64 d].toArray) Tryz.underlying145 AB AB ⟨AA,by simpa using h8⟩ (ek (a:=a) (b:=b) (c:=c) (d:=d) (i:=i) (by simp at h8;omega)))) ?_;refine zA ?_;refine AG rfl (HV [(15,.bool (GD a b c d i !=2&&GD a b c d i !=3)),(7,.int .i64 (i:Int)),(6,AX [.int .i64 a,.int .i64 b,.int .i64 c,.int .i64 d])] (fun S'=>AL S S') ?_ ?_)
  ·
   refine zg ?_;refine AZ (d:=12) rfl (fun Cf=>?_) (fun Cf=>?_)
   ·
    refine zg ?_
    exact⟨rfl,⟨bl (by first|(simp[Cf];done)|(simp only[Cf,Ag])),rfl,rfl,trivial⟩,hk⟩
   refine zg ?_
   exact⟨rfl,⟨bl (by first|(simp[Cf];done)|(simp only[Cf,Ag])),rfl,rfl,trivial⟩,hk⟩
  clear hk;intro S1 hk
  refine zg ?_
  constructor<;>intro Bo
  ·
   refine zg ?_
   refine AR (Ai (Bg (AR ((z1 rfl ⟨hk,congrArg (Value.int .i64) (xW (i:=i) (by simpa [KV]using Bo)).symm⟩)))))
  refine Ar rfl ?_;refine xg AB ?_;refine rr rfl (Ao rfl rfl rfl rfl) ?_;refine rm rfl ?_;refine Ak rfl ?_
  have AN:i<4:=by simp at h8;omega
  refine⟨4-(i+1),AA,i+1,AA,rfl,⟨congrArg some (congrArg (Value.int .i64) (IntWalk.i64_in _ AA)),rfl,trivial⟩,fun j hj=>?_,hk⟩
  rcases Nat.lt_succ_iff_lt_or_eq.1 hj with hj|rfl
  ·exact BI j hj
  revert Bo;unfold KV;simp only[bne];cases (GD a b c d j==2)<;>cases (GD a b c d j==3)<;>decide
 refine zg ?_
 refine y1 rfl ⟨hk,congrArg (Value.int .i64) (xX fun j hj=>BI j (by simp at h8;omega)).symm⟩
def one(s:Sg):Int:=bif decide (s.kind<1)||decide (s.kind>12)then 8 else bif !decide (s=II s (ub s.kind 0) (ub s.kind 1) (ub s.kind 2) (ub s.kind 3) (ub s.kind 4) (ub s.kind 5) (ub s.kind 6) (ub s.kind 7) (ub s.kind 8) (ub s.kind 9) (ub s.kind 10) (ub s.kind 11))then 3 else bif ub s.kind 7&&(Gi s.mx s.md s.tm s.pr !=0)then 12 else bif !Au s (ub s.kind 0) (ub s.kind 1) (ub s.kind 2) (ub s.kind 4) (ub s.kind 10) (ub s.kind 11)then 2 else bif s.Co&&s.last then 3 else 0
noncomputable def c37:Code:=Tryz.f37.body.getD .skip
theorem AAb(s:Sg)(hG:Gl S):CC Tryz.prog KK 37 [s.v] S (fun v S'=>AL S S'∧v= .int .i64 (one s)):=by
 refine Ce (c:=c37) (n:=43) Tryz.func37 rfl rfl rfl AB rfl rfl ?_
 have hl:=BE.start S
 refine zg ?_;refine bL hl fun B1 S1 hl=>?_;refine zA ?_;refine AG rfl ?_;refine AG rfl (F' hl [(11,.bool (decide (s.kind<1)||decide (s.kind>12))),(1,ptrTo B1 0)] ?_ ?_)
 ·
  refine zg ?_;refine AZ (d:=7) rfl (fun h7=>?_) (fun h7=>?_)
  ·
   refine zg ?_
   exact⟨rfl,⟨bl (by first|(simp[h7];done)|(simp only[h7,Ag])),rfl,trivial⟩,hl⟩
  refine zg ?_
  exact⟨rfl,⟨bl (by first|(simp[h7];done)|(simp only[h7,Ag])),rfl,trivial⟩,hl⟩
 intro S1 hl
 refine zg ?_
 constructor<;>intro Ba
 ·
  refine zg ?_
  exact(z1 rfl ⟨hl.AD,congrArg (Value.int .i64) (by unfold one;simp only[Ba,cond_true])⟩)
 have k1:1≤s.kind:=by simp at Ba;omega
 have k2:s.kind≤12:=by simp at Ba;omega
 refine Ar rfl ?_;refine xs AB ?_;refine rr rfl (CM rfl rfl (fa Tryz.underlying55 EP rfl)) ?_;refine rr rfl (rl hl 0 rfl rfl AB rfl rfl) ?_;refine rr rfl (Ea rfl rfl rfl (AHZ (z:=12) Tryz.underlying107 AB ⟨AA,AA⟩)) ?_;refine rr rfl (CU rfl rfl (CD (z:=12) AB AB ((hl.AD.2 0 hG.1).trans hG.2) (ASQ k1 k2))) ?_;refine aL hl [.bool false,.bool false,.bool false,.bool false,.bool false,.bool false,.bool false,.bool false,.bool false,.bool false,.bool false,.bool false] fun B3 S3 hl=>?_
 refine CN hl 0 rfl rfl rfl rfl rfl rfl rfl AB rfl ?_;intro S1 hl;refine zg ?_;refine BC (idx:=[0,1,2,3,4,5]) rfl AB AB ?_;refine zg ?_
 refine zp hl rfl (AOW s _ _ _ _ _ _ _ _ _ _ _ _) ?_;rintro v S1 AM rfl hl;refine⟨⟨ON AB,ON AB,CQ rfl rfl (CD (z:=17) AB AB (hl.get 1 rfl) rfl) (GR rfl (V9 s)) rfl,trivial⟩,?_⟩
 refine pr rfl (Ao rfl rfl rfl (Uy _ _ s (II s (ub s.kind 0) (ub s.kind 1) (ub s.kind 2) (ub s.kind 3) (ub s.kind 4) (ub s.kind 5) (ub s.kind 6) (ub s.kind 7) (ub s.kind 8) (ub s.kind 9) (ub s.kind 10) (ub s.kind 11)))) ?_;refine zg ?_
 constructor<;>intro Bt
 ·
  refine zg ?_
  refine AR ((z1 rfl ⟨hl.AD,congrArg (Value.int .i64) (by unfold one;simp only[Bt,Ba,cond_true,cond_false])⟩))
 refine AG rfl (F' hl [(22,.bool (ub s.kind 7&&(Gi s.mx s.md s.tm s.pr !=0))),(3,ptrTo B3 0),(1,ptrTo B1 0)] ?_ ?_)
 ·
  refine zg ?_;refine AZ (d:=25) rfl (fun C'=>?_) (fun C'=>?_)
  ·
   refine zg ?_
   refine zc hl rfl (AOX _ _ _ _) ?_;rintro v S1 AM rfl hl
   refine zg ?_
   exact⟨rfl,⟨bl (by first|(simp[C'];done)|(simp only[C',Ag])),rfl,rfl,trivial⟩,hl⟩
  refine zg ?_
  exact⟨rfl,⟨bl (by first|(simp[C'];done)|(simp only[C',Ag])),rfl,rfl,trivial⟩,hl⟩
 intro S1 hl
 refine zg ?_
 constructor<;>intro Dy
 ·
  refine zg ?_
  refine AR ((z1 rfl ⟨hl.AD,congrArg (Value.int .i64) (by unfold one;simp only[Dy,Bt,Ba,cond_true,cond_false])⟩))
 refine zg ?_
 refine zc hl rfl (AOY s _ _ _ _ _ _ _ _ _ _ _ _) ?_;rintro v S1 AM rfl hl
 refine rr rfl (BY rfl rfl rfl) ?_;refine zg ?_
 constructor<;>intro Gy
 ·
  refine zg ?_
  refine AR ((z1 rfl ⟨hl.AD,congrArg (Value.int .i64) (by unfold one;simp only[Gy,Dy,Bt,Ba,cond_true,cond_false])⟩))
 refine AG rfl (F' hl [(36,.bool (s.Co&&s.last)),(3,ptrTo B3 0),(1,ptrTo B1 0)] ?_ ?_)
 ·
  refine zg ?_;refine AZ (d:=39) rfl (fun EB=>?_) (fun EB=>?_)
  ·
   refine zg ?_
   exact⟨rfl,⟨bl (by first|(simp[EB];done)|(simp only[EB,Ag])),rfl,rfl,trivial⟩,hl⟩
  refine zg ?_
  exact⟨rfl,⟨bl (by first|(simp[EB];done)|(simp only[EB,Ag])),rfl,rfl,trivial⟩,hl⟩
 intro S1 hl
 refine zg ?_
 constructor<;>intro Eg
 ·
  refine zg ?_
  refine AR ((z1 rfl ⟨hl.AD,congrArg (Value.int .i64) (by unfold one;simp only[Eg,Gy,Dy,Bt,Ba,cond_true,cond_false])⟩))
 refine zg ?_
 refine y1 rfl ⟨hl.AD,congrArg (Value.int .i64) (by unfold one;simp only[Eg,Gy,Dy,Bt,Ba,cond_false])⟩
end Go.Proofs.YtmfphenhpkgidaaGreatDoor
namespace Go.Proofs.YtmfphenhpkgidaaGreatDoor
open Go.Cm Go
set_option maxRecDepth 100000
variable{S:St}
theorem Ad{α:Type}:∀{l:List α} {i:Nat},i<l.length→∃x,nth l i=some x
 |x::_,0,_=>⟨x,rfl⟩
 |_::l,i+1,h=>Ad (l:=l) (i:=i) (by simpa using h)
theorem I5{α:Type}:∀{l:List α} {i:Nat} {x:α},nth l i=some x→i<l.length
 |_::_,0,_,_=>by simp
 |_::l,i+1,x,h=>by have:=I5 (l:=l) (i:=i) (x:=x) h;simp only[List.length_cons];omega
theorem Rn{α β:Type}(f:α→β):∀{l:List α} {i:Nat} {x:α},nth l i=some x→nth (l.map f) i=some (f x)
 |_::_,0,_,h=>by cases h;rfl
 |_::l,i+1,x,h=>Rn f (l:=l) (i:=i) (x:=x) h
def Ck(S:St)(v:Value)(C:List Sg):Prop:=DL S 55 17 v (C.map Sg.cells)
theorem Ck.move{S S':St}(h:RK S S'){v:Value}{C:List Sg}(hs:Ck S v C):Ck S' v C:=DL.move h hs
theorem Ck.is{S:St}{v:Value}{C:List Sg}(h:Ck S v C):∃a cap,v= .slice a C.length cap:=by
 obtain⟨a,cap,e⟩:=DL.is h
 exact⟨a,cap,by simpa using e⟩
theorem Ck.elem{S:St}{a:Option Addr}{len cap:Nat}{C:List Sg}(h:Ck S (.slice a len cap) C){k:Nat}{x:Sg}(hk:nth C k=some x) :
  ∃b o cs,a=some ⟨b,o,none⟩∧len=C.length∧DW S b 55 cs∧takeN 17 (CH (o+k*17) cs)=some x.cells:=by
 obtain⟨b,o,cs,h1,h2,h3,h4⟩:=DL.elem h (Rn Sg.cells hk)
 exact⟨b,o,cs,h1,by simpa using h2,h3,h4⟩
def G4:List Sg→Sg→Nat→Int
 | [],_,_=> -1
 |x::C,s,k=>bif decide (s=x)then k else G4 C s (k+1)
theorem vc:∀(C:List Sg) (s:Sg) (i k:Nat),(∀j,j<i→∀y,nth C j=some y→s≠y)→nth C i=some s→G4 C s k=((k+i:Nat):Int)
 | [],_,_,_,_,h=>by cases h
 |x::C,s,0,k,_,h=>by
  obtain rfl:x=s:=Option.some.inj h
  unfold G4
  rw[decide_eq_true rfl]
  rfl
 |x::C,s,i+1,k,hn,h=>by
  have h0:s≠x:=hn 0 AA x rfl
  unfold G4
  rw[decide_eq_false h0]
  show G4 C s (k+1)=_
  rw[vc C s i (k+1) (fun j hj y hy=>hn (j+1) AA y hy) h]
  congr 1;omega
theorem vd:∀(C:List Sg) (s:Sg) (k:Nat),(∀j,j<C.length→∀y,nth C j=some y→s≠y)→G4 C s k= -1
 | [],_,_,_=>rfl
 |x::C,s,k,hn=>by
  have h0:s≠x:=hn 0 (by simp) x rfl
  unfold G4
  rw[decide_eq_false h0]
  exact vd C s (k+1) fun j hj y hy=>hn (j+1) (by simpa using hj) y hy
theorem au:∀(C:List Sg) (s:Sg) (k:Nat),decide (G4 C s k≥0)=decide (s∈C)
 | [],_,_=>rfl
 |x::C,s,k=>by
  unfold G4
  by_cases h:s=x
  ·subst h
   have:(0:Int)≤k:=by omega
   simp[this]
  rw[decide_eq_false h]
  show decide (G4 C s (k+1)≥0)=_
  rw[au C s (k+1)]
  simp[h]
def Gn(c:Int):Bool:=!(((decide (c<97)||decide (c>122))&&(decide (c<48)||decide (c>57)))&&(c !=45))
def H9(l:List UInt8):Int:=(l.headD 0).toNat
def LS(l:List UInt8):Bool:=(((((l.length:Int)==0)||decide ((l.length:Int)>20))||decide (H9 l<97))||decide (H9 l>122))
def HP(l:List UInt8):Bool:=!LS l&&l.all fun c=>Gn c.toNat
theorem AIt{l:List UInt8}(h:LS l=false):l.length≤20:=by
 unfold LS at h
 simp at h
 omega
theorem ly{l:List UInt8}(h:((l.length:Int)==0)=false):nth l 0=some (l.headD 0):=by
 cases l with
 |nil=>simp at h
 |cons a l=>rfl
theorem qU{l:List UInt8}{i:Nat}{c:UInt8}(h:nth l i=some c)(hc:Gn c.toNat=false):(l.all fun c=>Gn c.toNat)=false:=by
 rw[List.all_eq_false]
 refine⟨c,BV h,?_⟩
 rw[hc];simp
theorem qV{l:List UInt8}(h:∀j,j<l.length→∀c,nth l j=some c→Gn c.toNat=true):(l.all fun c=>Gn c.toNat)=true:=by
 rw[List.all_eq_true]
 intro c hc
 obtain⟨j,hj,e⟩:=List.getElem_of_mem hc
 refine h j hj c ?_
 rw[CE,List.getElem?_eq_getElem hj,e]
noncomputable def c36:Code:=Tryz.f36.body.getD .skip
theorem c6(a:Option Addr)(n cap:Nat)(b:Bool)(hn:n≤1000):CC Tryz.prog KK 36 [AX [.slice a n cap,.bool b]] S (fun v S'=>AL S S'∧v= .int .i64 (n+bif b then 1 else 0)):=by
 refine Ce (c:=c36) (n:=12) Tryz.func36 rfl rfl rfl AB rfl rfl ?_
 have hl:=BE.start S
 refine zg ?_;refine bL hl fun B1 S1 hl=>?_;refine zg ?_
 constructor<;>intro h4
 ·
  refine xs AB ?_;refine rr rfl (CM rfl rfl (fa Tryz.underlying49 Qd rfl)) ?_;refine rr rfl (rl hl 0 rfl rfl AB rfl rfl) ?_;refine rr rfl (F8 rfl rfl (IK Tryz.underlying42)) ?_;refine rr rfl (Ao rfl rfl rfl rfl) ?_;refine rm rfl ?_;refine Ak rfl ?_;refine Gt rfl ?_
  refine Ai (BA (BD rfl rfl) ⟨hl.AD,congrArg (Value.int .i64) (by rw[h4];exact IntWalk.i64_in _ AA)⟩)
 refine zg ?_
 refine y1 rfl ⟨hl.AD,congrArg (Value.int .i64) (by rw[h4];simp)⟩
noncomputable def c66:Code:=Tryz.f66.body.getD .skip
theorem AAh(a:Option Addr)(cap:Nat)(C:List Sg)(s:Sg)(hn:C.length≤1000)(hv:Ck S (.slice a C.length cap) C):CC Tryz.prog KK 66 [.slice a C.length cap,s.v] S (fun v S'=>AL S S'∧v= .int .i64 (G4 C s 0)):=by
 refine Ce (c:=c66) (n:=19) Tryz.func66 rfl rfl rfl AB rfl rfl ?_
 have hl:=BE.start S
 refine zg ?_;refine bL hl fun B3 S3 hl=>?_;refine zA ?_;refine AG rfl ?_;refine zS ?_;refine Az rfl ?_
 -- LOOP
 refine AK (L':=[(8,.int .i64 0),(7,.int .i64 C.length),(3,ptrTo B3 0),(0,.slice a C.length cap)]) sE ?_
 refine A2 rfl (fun m L S'=>∃i:Nat,i≤C.length∧m=C.length-i∧Af [(8,.int .i64 (i:Int)),(7,.int .i64 C.length),(3,ptrTo B3 0),(0,.slice a C.length cap)] L∧(∀j,j<i→∀y,nth C j=some y→s≠y)∧BE S [S] S' [(B3,.cells s.cells 55 false true [])]) ?_ (m:=C.length) ⟨0,AA,rfl,sE,fun j hj=>by omega,hl⟩
 clear hl;rintro m L S' ⟨i,hi,rfl,hs,Ac,hl⟩;refine AK hs ?_
 refine zg ?_
 constructor<;>intro h9
 ·
  have AN:i<C.length:=by simp at h9;omega
  obtain⟨x,hx⟩:=Ad AN
  obtain⟨b,o,cs,rfl,_,AQ,Aa⟩:=hv.elem hx
  refine zg ?_;refine BC (idx:=[0,1,2,3,4,5]) rfl AB AB ?_;refine zg ?_;refine pr rfl (Ao rfl rfl rfl (sr _ _ s x)) ?_;refine zg ?_
  constructor<;>intro Bt
  ·
   refine zg ?_
   refine AR (Ai (Bg (AR ((z1 rfl ⟨hl.AD,congrArg (Value.int .i64) (by obtain rfl:s=x:=(by simpa using Bt);rw[vc C s i 0 Ac hx];simp)⟩)))))
  refine Ar rfl ?_;refine xg AB ?_;refine rr rfl (Ao rfl rfl rfl rfl) ?_;refine rm rfl ?_;refine Ak rfl ?_
  refine⟨C.length-(i+1),AA,i+1,AA,rfl,⟨congrArg some (congrArg (Value.int .i64) (IntWalk.i64_in _ AA)),rfl,rfl,rfl,trivial⟩,fun j hj y hy=>?_,hl⟩
  rcases Nat.lt_succ_iff_lt_or_eq.1 hj with hj|rfl
  ·exact Ac j hj y hy
  rw[hx]at hy;cases hy;simpa using Bt
 refine zg ?_
 refine y1 rfl ⟨hl.AD,congrArg (Value.int .i64) (by rw[vd C s 0 fun j hj y hy=>Ac j (by simp at h9;omega) y hy])⟩
noncomputable def c38:Code:=Tryz.f38.body.getD .skip
theorem AAc(a:Option Addr)(cap:Nat)(C:List Sg)(s:Sg)(hn:C.length≤1000)(hv:Ck S (.slice a C.length cap) C):CC Tryz.prog KK 38 [.slice a C.length cap,s.v] S (fun v S'=>AL S S'∧v= .bool (decide (s∈C))):=by
 refine Ce (c:=c38) (n:=9) Tryz.func38 rfl rfl rfl AB rfl rfl ?_
 have hl:=BE.start S
 refine zg ?_;refine bL hl fun B3 S3 hl=>?_;refine zg ?_
 refine zc hl rfl (AAh a cap C s hn (hv.move (hl.since 0 rfl))) ?_;rintro v S1 AM rfl hl
 refine zg ?_
 refine y1 rfl ⟨hl.AD,congrArg Value.bool (au C s 0)⟩
noncomputable def c35:Code:=Tryz.f35.body.getD .skip
theorem AAa(s:ByteArray):CC Tryz.prog KK 35 [.string s] S (fun v S'=>AL S S'∧v= .bool (HP s.data.toList)):=by
 refine Ce (c:=c35) (n:=50) Tryz.func35 rfl rfl rfl AB rfl rfl ?_
 have hl:=BE.start S
 refine zS ?_;refine AG rfl ?_;refine AG rfl (F' hl [(22,.bool (LS s.data.toList)),(0,.string s)] ?_ ?_)
 ·
  refine zS ?_;refine rr rfl (F8 rfl rfl (Uo Tryz.underlying9)) ?_;refine zA ?_;refine AZ (d:=8) rfl (fun h8=>?_) (fun h8=>?_)
  ·
   refine zg ?_
   exact⟨rfl,⟨bl (by unfold LS H9;simp only[h8,Ag]),rfl,trivial⟩,hl⟩
  refine zA ?_;refine rr rfl (F8 rfl rfl (Uo Tryz.underlying9)) ?_;refine zA ?_;refine AZ (d:=13) rfl (fun EA=>?_) (fun EA=>?_)
  ·
   refine zg ?_
   exact⟨rfl,⟨bl (by unfold LS H9;simp only[EA,h8,Ag]),rfl,trivial⟩,hl⟩
  refine zg ?_;refine rr rfl (Pe rfl rfl rfl (RW Tryz.underlying9 (Int.le_refl 0) (ly h8))) ?_;refine zg ?_;refine AZ (d:=18) rfl (fun Ct=>?_) (fun Ct=>?_)
  ·
   refine zg ?_
   exact⟨rfl,⟨bl (by unfold LS H9;simp only[Ct,EA,h8,Ag]),rfl,trivial⟩,hl⟩
  refine zg ?_;refine rr rfl (Pe rfl rfl rfl (RW Tryz.underlying9 (Int.le_refl 0) (ly h8))) ?_;refine zg ?_
  exact⟨rfl,⟨bl (by unfold LS H9;simp only[Ct,EA,h8,Ag]),rfl,trivial⟩,hl⟩
 intro S1 hl
 refine zg ?_
 constructor<;>intro Dy
 ·
  refine zg ?_
  exact(z1 rfl ⟨hl.AD,congrArg Value.bool (by unfold HP;rw[Dy];rfl)⟩)
 refine Ar rfl ?_;refine AG rfl ?_;refine zS ?_;refine rr rfl (F8 rfl rfl (Uo Tryz.underlying9)) ?_;refine zA ?_;refine Az rfl ?_
 -- LOOP
 refine AK (L':=[(25,.int .i64 0),(24,.int .i64 s.data.toList.length),(0,.string s)]) sE ?_
 have hn:s.data.toList.length≤20:=AIt Dy
 refine A2 rfl (fun m L S'=>∃i:Nat,i≤s.data.toList.length∧m=s.data.toList.length-i∧Af [(25,.int .i64 (i:Int)),(24,.int .i64 s.data.toList.length),(0,.string s)] L∧(∀j,j<i→∀c,nth s.data.toList j=some c→Gn c.toNat=true)∧BE S [S] S' []) ?_ (m:=s.data.toList.length) ⟨0,AA,rfl,sE,fun j hj=>by omega,hl⟩
 clear hl;rintro m L S' ⟨i,hi,rfl,hs,BI,hl⟩;refine AK hs ?_
 refine zg ?_
 constructor<;>intro C3
 ·
  have AN:i<s.data.toList.length:=dT C3
  obtain⟨c,hc⟩:=Ad AN
  refine zg ?_;refine rr rfl (Pe rfl rfl rfl (RW Tryz.underlying9 AA (hc))) ?_;refine zA ?_;refine AG rfl (F' hl [(48,.bool (!Gn c.toNat)),(25,.int .i64 (i:Int)),(24,.int .i64 s.data.toList.length),(0,.string s)] ?_ ?_)
  ·
   refine zg ?_;refine AZ (d:=33) rfl (fun EU=>?_) (fun EU=>?_)
   ·
    refine zg ?_;refine AZ (d:=40) rfl (fun DO=>?_) (fun DO=>?_)
    ·
     refine zg ?_
     exact⟨rfl,⟨bl (by unfold Gn;simp only[DO,EU,Ag]),rfl,rfl,rfl,trivial⟩,hl⟩
    refine zg ?_;refine AZ (d:=45) rfl (fun DB=>?_) (fun DB=>?_)
    ·
     refine zg ?_
     exact⟨rfl,⟨bl (by unfold Gn;simp only[DB,DO,EU,Ag]),rfl,rfl,rfl,trivial⟩,hl⟩
    refine zg ?_
    exact⟨rfl,⟨bl (by unfold Gn;simp only[DB,DO,EU,Ag]),rfl,rfl,rfl,trivial⟩,hl⟩
   refine zg ?_;refine AZ (d:=37) rfl (fun HG=>?_) (fun HG=>?_)
   ·
    refine zg ?_;refine AZ (d:=40) rfl (fun DO=>?_) (fun DO=>?_)
    ·
     refine zg ?_
     exact⟨rfl,⟨bl (by unfold Gn;simp only[DO,HG,EU,Ag]),rfl,rfl,rfl,trivial⟩,hl⟩
    refine zg ?_;refine AZ (d:=45) rfl (fun DB=>?_) (fun DB=>?_)
    ·
     refine zg ?_
     exact⟨rfl,⟨bl (by unfold Gn;simp only[DB,DO,HG,EU,Ag]),rfl,rfl,rfl,trivial⟩,hl⟩
    refine zg ?_
    exact⟨rfl,⟨bl (by unfold Gn;simp only[DB,DO,HG,EU,Ag]),rfl,rfl,rfl,trivial⟩,hl⟩
   refine zg ?_
   exact⟨rfl,⟨bl (by unfold Gn;simp only[HG,EU,Ag]),rfl,rfl,rfl,trivial⟩,hl⟩
  intro S1 hl
  refine zg ?_
  constructor<;>intro EK
  ·
   refine zg ?_
   refine AR (Ai (Bg (AR ((z1 rfl ⟨hl.AD,congrArg Value.bool (by unfold HP;rw[qU hc (by simpa using EK),Bool.and_false])⟩)))))
  refine Ar rfl ?_;refine xg AB ?_;refine rr rfl (Ao rfl rfl rfl rfl) ?_;refine rm rfl ?_;refine Ak rfl ?_
  refine⟨s.data.toList.length-(i+1),AA,i+1,AA,rfl,⟨congrArg some (congrArg (Value.int .i64) (IntWalk.i64_in _ AA)),rfl,rfl,trivial⟩,fun j hj y hy=>?_,hl⟩
  rcases Nat.lt_succ_iff_lt_or_eq.1 hj with hj|rfl
  ·exact BI j hj y hy
  rw[hc]at hy;cases hy;simpa using EK
 refine zg ?_
 refine y1 rfl ⟨hl.AD,congrArg Value.bool (by unfold HP;rw[Dy,qV fun j hj c hc=>BI j (dF C3) c hc];rfl)⟩
end Go.Proofs.YtmfphenhpkgidaaGreatDoor
namespace Go.Proofs.YtmfphenhpkgidaaGreatDoor
open Go.Cm Go
set_option maxRecDepth 100000
variable{S:St}
structure AP where
 AT:List Sg
 blank:Bool
instance:DecidableEq AP:=fun a b=>decidable_of_iff ((a.AT,a.blank)=(b.AT,b.blank)) ⟨fun h=>by cases a;cases b;simpa using h,fun h=>by rw[h]⟩
def Tr(S:St)(x:AP)(c:List Value):Prop:= ∃sv,c= [sv,.bool x.blank]∧Ck S sv x.AT
def EG(S:St)(v:Value)(L:List AP):Prop:= ∃C,C.length=L.length∧DL S 49 2 v C∧∀k x,nth L k=some x→∃c,nth C k=some c∧Tr S x c
theorem Tr.move{S S':St}(h:RK S S'){x:AP}{c:List Value}(hs:Tr S x c):Tr S' x c:=by
 obtain⟨sv,h1,h2⟩:=hs
 exact⟨sv,h1,h2.move h⟩
theorem EG.move{S S':St}(h:RK S S'){v:Value}{L:List AP}(hs:EG S v L):EG S' v L:=by
 obtain⟨C,h1,h2,h3⟩:=hs
 exact⟨C,h1,h2.move h,fun k x hx=>by
  obtain⟨c,k1,k2⟩:=h3 k x hx
  exact⟨c,k1,k2.move h⟩⟩
theorem EG.is{S:St}{v:Value}{L:List AP}(h:EG S v L):∃a cap,v= .slice a L.length cap:=by
 obtain⟨C,h1,h2,_⟩:=h
 obtain⟨a,cap,e⟩:=h2.is
 exact⟨a,cap,h1▸e⟩
theorem EG.elem{S:St}{a:Option Addr}{len cap:Nat}{L:List AP}(h:EG S (.slice a len cap) L){k:Nat}{x:AP}(hk:nth L k=some x) :
  ∃b o cs a2 Bv,a=some ⟨b,o,none⟩∧DW S b 49 cs∧takeN 2 (CH (o+k*2) cs)=some [.slice a2 x.AT.length Bv,.bool x.blank]∧Ck S (.slice a2 x.AT.length Bv) x.AT:=by
 obtain⟨C,h1,h2,h3⟩:=h
 obtain⟨c,k1,sv,rfl,k3⟩:=h3 k x hk
 obtain⟨b,o,cs,e1,_,e3,e4⟩:=h2.elem k1
 obtain⟨a2,Bv,rfl⟩:=k3.is
 exact⟨b,o,cs,a2,Bv,e1,e3,e4,k3⟩
theorem Ck.front{S:St}{a:Option Addr}{len cap:Nat}{C:List Sg}(h:Ck S (.slice a len cap) C){k:Nat}(hk:k<C.length) :
  ∃a2 BM,Fq Tryz.prog 42 (.slice a len cap) none (some (.int .i64 (k:Int))) none S=some (.slice a2 (C.take k).length BM)∧Ck S (.slice a2 (C.take k).length BM) (C.take k):=by
 obtain⟨v,h1,⟨BM,h2⟩,h3⟩:=DL.front (P:=Tryz.prog) (kk:= .i64) h Tryz.underlying42 AB (by simpa using hk)
 subst h2
 have e:(C.take k).length=k:=by rw[List.length_take,Nat.min_eq_left AA]
 rw[e]
 exact⟨_,_,h1,by unfold Ck;rw[List.map_take];exact h3⟩
def Fp:List Sg→List Sg→Int
 |_,[]=>0
 |pre,y::r=>bif one y !=0 then one y else bif decide (y∈pre)then 10 else Fp (pre++[y]) r
def EM(x:AP):Int:=x.AT.length+bif x.blank then 1 else 0
def G8(x:AP):Bool:=decide (EM x<1)||decide (EM x>4)
def F9:List AP→Nat→Int×Int
 | [],_=>(0,0)
 |x::L,i=>bif G8 x then(3,i)else bif Fp [] x.AT !=0 then(Fp [] x.AT,i)else F9 L (i+1)
def DF(nm:List UInt8)(L:List AP):Int×Int:=bif !HP nm then(7,0)else bif decide ((L.length:Int)>400)then(11,0)else F9 L 0
theorem C9{α:Type}:∀{l:List α} {i:Nat} {x:α},nth l i=some x→l.drop i=x::l.drop (i+1)
 | [],_,_,h=>by cases h
 |y::l,0,x,h=>by cases h;rfl
 |y::l,i+1,x,h=>by simpa using C9 (l:=l) (i:=i) h
theorem oS{α:Type}:∀{l:List α} {i:Nat} {x:α},nth l i=some x→l.take (i+1)=l.take i++[x]
 | [],_,_,h=>by cases h
 |y::l,0,x,h=>by cases h;rfl
 |y::l,i+1,x,h=>by simpa using oS (l:=l) (i:=i) h
def eM(S0 S:St)(v:Value)(C:List Sg):Prop:=Am S0 S ⟨v,55,17,(C.map Sg.cells).flatten,C.length⟩
theorem r4(s:Sg):s.cells.length=17:=rfl
theorem Zs:∀C:List Sg,((C.map Sg.cells).flatten).length=C.length*17
 | []=>rfl
 |x::C=>by simp only[List.map_cons,List.flatten_cons,DS,Zs C,r4,List.length_cons,Nat.add_mul];omega
theorem AEi(s:Sg):s.cells.all D9=true:=rfl
theorem gJ:∀C:List Sg,((C.map Sg.cells).flatten).all D9=true
 | []=>rfl
 |x::C=>by simp only[List.map_cons,List.flatten_cons,List.all_append,gJ C,AEi,Bool.and_self]
theorem eM.AT{S0 S:St}{v:Value}{C:List Sg}(h:eM S0 S v C):Ck S v C :=
 Am.sliceAt (g:=⟨v,55,17,(C.map Sg.cells).flatten,C.length⟩) h (by simp) rfl (fun x hx=>by
  obtain⟨s,_,rfl⟩:=List.mem_map.1 hx
  rfl)
theorem AUH{S T:St}{a:Option Addr}{cap:Nat}{C:List Sg}(h:Ck S (.slice a C.length cap) C)(ha:a.isNone=true):eM S T (Aw [.slice none 0 0]) C:=by
 cases a with
 |some x=>cases ha
 |none =>
  rcases h with ⟨h1,_⟩|⟨_,_,_,_,h1,_⟩
  ·obtain rfl:C= []:=List.map_eq_nil_iff.1 h1
   exact .inl ⟨rfl,rfl,rfl⟩
  cases h1
theorem AT8{S0 S:St}{v:Value}{C:List Sg}(h:Am S0 S ⟨v,55,17,[]++(C.map Sg.cells).flatten,0+C.length⟩):eM S0 S v C:=by
 rw[List.nil_append,Nat.zero_add]at h
 exact h
noncomputable def c60:Code:=Tryz.f60.body.getD .skip
theorem AUd(a:Option Addr)(cap:Nat)(C:List Sg)(hn:C.length≤1000)(hv:Ck S (.slice a C.length cap) C):CC Tryz.prog KK 60 [.slice a C.length cap] S (fun v S'=>AL S S'∧eM S S' v C):=by
 refine Ce (c:=c60) (n:=8) Tryz.func60 rfl rfl rfl AB rfl rfl ?_
 have hl:=BE.start S
 refine xs AB ?_;refine rm rfl ?_;refine Ak rfl ?_;refine AG rfl ?_;refine xs AB ?_;refine rm rfl ?_;refine rr rfl (Ao rfl rfl rfl (eq_nil Tryz.underlying42)) ?_;refine Ak rfl ?_;refine DQ rfl rfl (fun h4=>?_) (fun h4=>?_)
 ·
  refine xs AB ?_;refine rm rfl ?_;refine Ak rfl ?_;refine Gt rfl ?_
  refine Ai (BA (BD rfl rfl) ⟨hl.AD,AUH hv h4⟩)
 refine Ar rfl ?_;refine xs AB ?_;refine mn hl (c:=[]) 17 rfl rfl rfl rfl rfl Tryz.underlying42 rfl AB rfl ?_;intro v5 S1 hl;refine rm rfl ?_
 have F1:=hv.move (hl.since 0 rfl)
 refine DZ hl 0 rfl rfl (by simp) rfl rfl rfl rfl rfl rfl rfl Tryz.underlying42 Tryz.underlying42 rfl rfl AB F1.cells (Zs C) (gJ C) AB (by show 0+C.length≤Ae;unfold Ae;omega) ?_;intro v7 S1 hl;refine rm rfl ?_;refine Ak rfl ?_;refine Gt rfl ?_
 refine BA (BD rfl rfl) ⟨hl.AD,AT8 (hl.gr _ Al)⟩
end Go.Proofs.YtmfphenhpkgidaaGreatDoor

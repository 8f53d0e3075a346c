/-
  Lists of signs, names.
-/
import Derived.Test.YtmfphenhpkgidaaGreatDoorSmA
import Derived.Test.YtmfphenhpkgidaaGreatDoorSy1
import Derived.Test.YtmfphenhpkgidaaGreatDoorSy2
namespace Go.Proofs.YtmfphenhpkgidaaGreatDoor
open Go.Cm Go
set_option maxRecDepth 100000
variable{S:St}
theorem nth_some{α:Type}:∀{l:List α} {i:Nat},i<l.length→∃x,nth l i=some x
 |x::_,0,_=>⟨x,rfl⟩
 |_::l,i+1,h=>nth_some (l:=l) (i:=i) (by simpa using h)
theorem nth_lt{α:Type}:∀{l:List α} {i:Nat} {x:α},nth l i=some x→i<l.length
 |_::_,0,_,_=>by simp
 |_::l,i+1,x,h=>by have:=nth_lt (l:=l) (i:=i) (x:=x) h;simp only[List.length_cons];omega
theorem nth_map{α β:Type}(f:α→β):∀{l:List α} {i:Nat} {x:α},nth l i=some x→nth (l.map f) i=some (f x)
 |_::_,0,_,h=>by cases h;rfl
 |_::l,i+1,x,h=>nth_map f (l:=l) (i:=i) (x:=x) h
def Signs(S:St)(v:Value)(C:List Sg):Prop:=SliceAt S 55 17 v (C.map Sg.cells)
theorem Signs.move{S S':St}(h:RK S S'){v:Value}{C:List Sg}(hs:Signs S v C):Signs S' v C:=SliceAt.move h hs
theorem Signs.is{S:St}{v:Value}{C:List Sg}(h:Signs S v C):∃a cap,v= .slice a C.length cap:=by
 obtain⟨a,cap,e⟩:=SliceAt.is h
 exact⟨a,cap,by simpa using e⟩
theorem Signs.elem{S:St}{a:Option Addr}{len cap:Nat}{C:List Sg}(h:Signs S (.slice a len cap) C){k:Nat}{x:Sg}(hk:nth C k=some x) :
  ∃b o cs,a=some ⟨b,o,none⟩∧len=C.length∧RowAt S b 55 cs∧takeN 17 (dropN (o+k*17) cs)=some x.cells:=by
 obtain⟨b,o,cs,h1,h2,h3,h4⟩:=SliceAt.elem h (nth_map Sg.cells hk)
 exact⟨b,o,cs,h1,by simpa using h2,h3,h4⟩
theorem nth_ext{α:Type}:∀{l r:List α},l.length=r.length→(∀j,j<l.length→nth l j=nth r j)→l=r
 | [],[],_,_=>rfl
 | [],_::_,h,_=>by simp at h
 |_::_,[],h,_=>by simp at h
 |x::l,y::r,h,hj=>by
  have h0:=hj 0 (by simp)
  cases h0
  rw[nth_ext (l:=l) (r:=r) (by simpa using h) fun j k=>hj (j+1) (by simpa using k)]
def idxF:List Sg→Sg→Nat→Int
 | [],_,_=> -1
 |x::C,s,k=>bif decide (s=x)then k else idxF C s (k+1)
theorem idxF_at:∀(C:List Sg) (s:Sg) (i k:Nat),(∀j,j<i→∀y,nth C j=some y→s≠y)→nth C i=some s→idxF C s k=((k+i:Nat):Int)
 | [],_,_,_,_,h=>by cases h
 |x::C,s,0,k,_,h=>by
  obtain rfl:x=s:=Option.some.inj h
  unfold idxF
  rw[decide_eq_true rfl]
  rfl
 |x::C,s,i+1,k,hn,h=>by
  have h0:s≠x:=hn 0 (by omega) x rfl
  unfold idxF
  rw[decide_eq_false h0]
  show idxF C s (k+1)=_
  rw[idxF_at C s i (k+1) (fun j hj y hy=>hn (j+1) (by omega) y hy) h]
  congr 1;omega
theorem idxF_none:∀(C:List Sg) (s:Sg) (k:Nat),(∀j,j<C.length→∀y,nth C j=some y→s≠y)→idxF C s k= -1
 | [],_,_,_=>rfl
 |x::C,s,k,hn=>by
  have h0:s≠x:=hn 0 (by simp) x rfl
  unfold idxF
  rw[decide_eq_false h0]
  exact idxF_none C s (k+1) fun j hj y hy=>hn (j+1) (by simpa using hj) y hy
theorem idxF_mem:∀(C:List Sg) (s:Sg) (k:Nat),decide (idxF C s k≥0)=decide (s∈C)
 | [],_,_=>rfl
 |x::C,s,k=>by
  unfold idxF
  by_cases h:s=x
  ·subst h
   have:(0:Int)≤k:=by omega
   simp[this]
  rw[decide_eq_false h]
  show decide (idxF C s (k+1)≥0)=_
  rw[idxF_mem C s (k+1)]
  simp[h]
def okc(c:Int):Bool:=!(((decide (c<97)||decide (c>122))&&(decide (c<48)||decide (c>57)))&&(c !=45))
def hd0(l:List UInt8):Int:=(l.headD 0).toNat
def nameB(l:List UInt8):Bool:=(((((l.length:Int)==0)||decide ((l.length:Int)>20))||decide (hd0 l<97))||decide (hd0 l>122))
def nameF(l:List UInt8):Bool:=!nameB l&&l.all fun c=>okc c.toNat
theorem nameB_len{l:List UInt8}(h:nameB l=false):l.length≤20:=by
 unfold nameB at h
 simp at h
 omega
theorem nth_hd{l:List UInt8}(h:((l.length:Int)==0)=false):nth l 0=some (l.headD 0):=by
 cases l with
 |nil=>simp at h
 |cons a l=>rfl
theorem all_no{l:List UInt8}{i:Nat}{c:UInt8}(h:nth l i=some c)(hc:okc c.toNat=false):(l.all fun c=>okc c.toNat)=false:=by
 rw[List.all_eq_false]
 refine⟨c,nth_mem h,?_⟩
 rw[hc];simp
theorem all_yes{l:List UInt8}(h:∀j,j<l.length→∀c,nth l j=some c→okc c.toNat=true):(l.all fun c=>okc c.toNat)=true:=by
 rw[List.all_eq_true]
 intro c hc
 obtain⟨j,hj,e⟩:=List.getElem_of_mem hc
 refine h j hj c ?_
 rw[nth_eq,List.getElem?_eq_getElem hj,e]
noncomputable def c36:Code:=Tryz.f36.body.getD .skip
theorem spec36(a:Option Addr)(n cap:Nat)(b:Bool)(hn:n≤1000):CC Tryz.prog KK 36 [aggL [.slice a n cap,.bool b]] S (fun v S'=>Keep S S'∧v= .int .i64 (n+bif b then 1 else 0)):=by
 refine cc_enter (c:=c36) (n:=12) Tryz.func36 rfl rfl rfl (by kernel_rfl) rfl rfl ?_
 have hl:=Hold.start S
 refine zg ?_;refine re_boxL hl rfl rfl rfl rfl rfl rfl ?_;intro B1 S1 hl;refine zg ?_
 constructor<;>intro h4
 ·
  refine xs (by kernel_rfl) ?_;refine rr rfl (rd_fieldAddr rfl rfl (fa Tryz.underlying49 az49 rfl)) ?_;refine rr rfl (rl hl 0 rfl rfl (by kernel_rfl) rfl rfl) ?_;refine rr rfl (rd_len rfl rfl (len_slice Tryz.underlying42)) ?_;refine rr rfl (rd_bin rfl rfl rfl rfl) ?_;refine rm rfl ?_;refine re_end rfl ?_;refine xp_ret rfl ?_
  refine thn_ret (done_ret (ress_tmp rfl rfl) ⟨hl.keep,congrArg (Value.int .i64) (by rw[h4];exact IntWalk.i64_in _ (by omega))⟩)
 refine zg ?_
 refine y1 rfl ⟨hl.keep,congrArg (Value.int .i64) (by rw[h4];simp)⟩
noncomputable def c66:Code:=Tryz.f66.body.getD .skip
theorem spec66(a:Option Addr)(cap:Nat)(C:List Sg)(s:Sg)(hn:C.length≤1000)(hv:Signs S (.slice a C.length cap) C):CC Tryz.prog KK 66 [.slice a C.length cap,s.v] S (fun v S'=>Keep S S'∧v= .int .i64 (idxF C s 0)):=by
 refine cc_enter (c:=c66) (n:=19) Tryz.func66 rfl rfl rfl (by kernel_rfl) rfl rfl ?_
 have hl:=Hold.start S
 refine zg ?_;refine re_boxL hl rfl rfl rfl rfl rfl rfl ?_;intro B3 S3 hl;refine zA ?_;refine xp_seq rfl ?_;refine zS ?_;refine xp_block rfl ?_
 -- LOOP
 refine xe_sub (L':=[(8,.int .i64 0),(7,.int .i64 C.length),(3,ptrTo B3 0),(0,.slice a C.length cap)]) ⟨rfl,rfl,rfl,rfl,trivial⟩ ?_
 refine xp_loop rfl (fun m L S'=>∃i:Nat,i≤C.length∧m=C.length-i∧SubE [(8,.int .i64 (i:Int)),(7,.int .i64 C.length),(3,ptrTo B3 0),(0,.slice a C.length cap)] L∧(∀j,j<i→∀y,nth C j=some y→s≠y)∧Hold S [S] S' [(B3,.cells s.cells 55 false true [])]) ?_ (m:=C.length) ⟨0,by omega,rfl,⟨rfl,rfl,rfl,rfl,trivial⟩,fun j hj=>by omega,hl⟩
 clear hl;rintro m L S' ⟨i,hi,rfl,hs,hne,hl⟩;refine xe_sub hs ?_
 refine zg ?_
 constructor<;>intro h9
 ·
  have hlt:i<C.length:=by simp at h9;omega
  obtain⟨x,hx⟩:=nth_some hlt
  obtain⟨b,o,cs,rfl,_,hrow,htk⟩:=hv.elem hx
  refine zg ?_;refine xp_draw (idx:=[0,1,2,3,4,5]) rfl (by kernel_rfl) (by kernel_rfl) ?_;refine zg ?_;refine pr rfl (rd_bin rfl rfl rfl (eqSign' _ _ s x)) ?_;refine zg ?_
  constructor<;>intro h16
  ·
   refine zg ?_
   refine blk_ret (thn_ret (round_ret (blk_ret ((z1 rfl ⟨hl.keep,congrArg (Value.int .i64) (by obtain rfl:s=x:=(by simpa using h16);rw[idxF_at C s i 0 hne hx];simp)⟩)))))
  refine xp_skip rfl ?_;refine xg (by kernel_rfl) ?_;refine rr rfl (rd_bin rfl rfl rfl rfl) ?_;refine rm rfl ?_;refine re_end rfl ?_
  refine⟨C.length-(i+1),by omega,i+1,by omega,rfl,⟨congrArg some (congrArg (Value.int .i64) (IntWalk.i64_in _ (by omega))),rfl,rfl,rfl,trivial⟩,fun j hj y hy=>?_,hl⟩
  rcases Nat.lt_succ_iff_lt_or_eq.1 hj with hj|rfl
  ·exact hne j hj y hy
  rw[hx]at hy;cases hy;simpa using h16
 refine zg ?_
 refine y1 rfl ⟨hl.keep,congrArg (Value.int .i64) (by rw[idxF_none C s 0 fun j hj y hy=>hne j (by simp at h9;omega) y hy])⟩
noncomputable def c38:Code:=Tryz.f38.body.getD .skip
theorem spec38(a:Option Addr)(cap:Nat)(C:List Sg)(s:Sg)(hn:C.length≤1000)(hv:Signs S (.slice a C.length cap) C):CC Tryz.prog KK 38 [.slice a C.length cap,s.v] S (fun v S'=>Keep S S'∧v= .bool (decide (s∈C))):=by
 refine cc_enter (c:=c38) (n:=9) Tryz.func38 rfl rfl rfl (by kernel_rfl) rfl rfl ?_
 have hl:=Hold.start S
 refine zg ?_;refine re_boxL hl rfl rfl rfl rfl rfl rfl ?_;intro B3 S3 hl;refine zg ?_
 refine zc hl rfl (spec66 a cap C s hn (hv.move (hl.since 0 rfl))) ?_;rintro v S1 hk1 rfl hl
 refine zg ?_
 refine y1 rfl ⟨hl.keep,congrArg Value.bool (idxF_mem C s 0)⟩
noncomputable def c50:Code:=Tryz.f50.body.getD .skip
theorem spec50(a a2:Option Addr)(cap cap2:Nat)(C D:List Sg)(hn:C.length≤1000)(hv:Signs S (.slice a C.length cap) C)(hv2:Signs S (.slice a2 D.length cap2) D):CC Tryz.prog KK 50 [.slice a C.length cap,.slice a2 D.length cap2] S (fun v S'=>Keep S S'∧v= .bool (decide (C=D))):=by
 refine cc_enter (c:=c50) (n:=26) Tryz.func50 rfl rfl rfl (by kernel_rfl) rfl rfl ?_
 have hl:=Hold.start S
 refine zg ?_
 constructor<;>intro h10
 ·
  refine zg ?_
  exact(z1 rfl ⟨hl.keep,congrArg Value.bool (by symm;rw[decide_eq_false_iff_not];rintro rfl;simp at h10)⟩)
 refine xp_skip rfl ?_;refine xp_seq rfl ?_;refine zS ?_;refine xp_block rfl ?_
 -- LOOP
 refine xe_sub (L':=[(5,.int .i64 0),(1,.slice a2 D.length cap2),(0,.slice a C.length cap)]) ⟨rfl,rfl,rfl,trivial⟩ ?_
 have hlen:C.length=D.length:=by simp at h10;omega
 refine xp_loop rfl (fun m L S'=>∃i:Nat,i≤C.length∧m=C.length-i∧SubE [(5,.int .i64 (i:Int)),(1,.slice a2 D.length cap2),(0,.slice a C.length cap)] L∧(∀j,j<i→nth C j=nth D j)∧Hold S [S] S' []) ?_ (m:=C.length) ⟨0,by omega,rfl,⟨rfl,rfl,rfl,trivial⟩,fun j hj=>by omega,hl⟩
 clear hl;rintro m L S' ⟨i,hi,rfl,hs,hne,hl⟩;refine xe_sub hs ?_
 refine zg ?_
 constructor<;>intro h14
 ·
  have hlt:i<C.length:=by simp at h14;omega
  obtain⟨x,hx⟩:=nth_some hlt
  obtain⟨y,hy⟩:=nth_some (hlen▸hlt)
  obtain⟨b,o,cs,rfl,_,hrow,htk⟩:=hv.elem hx
  obtain⟨b2,o2,cs2,rfl,_,hrow2,htk2⟩:=hv2.elem hy
  refine zg ?_;refine xp_draw (idx:=[0,1,2,3,4,5,6,7,8]) rfl (by kernel_rfl) (by kernel_rfl) ?_;refine zg ?_;refine pr rfl (rd_bin rfl rfl rfl (neSign _ _ x y)) ?_;refine zg ?_
  constructor<;>intro h25
  ·
   refine zg ?_
   refine blk_ret (thn_ret (round_ret (blk_ret ((z1 rfl ⟨hl.keep,congrArg Value.bool (by symm;rw[decide_eq_false_iff_not];rintro rfl;rw[hx]at hy;cases hy;simp at h25)⟩)))))
  refine xp_skip rfl ?_;refine xg (by kernel_rfl) ?_;refine rm rfl ?_;refine rr rfl (rd_bin rfl rfl rfl rfl) ?_;refine rm rfl ?_;refine re_end rfl ?_
  refine⟨C.length-(i+1),by omega,i+1,by omega,rfl,⟨congrArg some (congrArg (Value.int .i64) (IntWalk.i64_in _ (by omega))),rfl,rfl,trivial⟩,fun j hj=>?_,hl⟩
  rcases Nat.lt_succ_iff_lt_or_eq.1 hj with hj|rfl
  ·exact hne j hj
  rw[hx,hy];exact congrArg some (by simpa using h25)
 refine zg ?_
 refine y1 rfl ⟨hl.keep,congrArg Value.bool (by symm;rw[decide_eq_true_iff];exact nth_ext hlen fun j hj=>hne j (by simp at h14;omega))⟩
noncomputable def c35:Code:=Tryz.f35.body.getD .skip
theorem spec35(s:ByteArray):CC Tryz.prog KK 35 [.string s] S (fun v S'=>Keep S S'∧v= .bool (nameF s.data.toList)):=by
 refine cc_enter (c:=c35) (n:=50) Tryz.func35 rfl rfl rfl (by kernel_rfl) rfl rfl ?_
 have hl:=Hold.start S
 refine zS ?_;refine xp_seq rfl ?_;refine xp_seq rfl (xe_toL hl [(22,.bool (nameB s.data.toList)),(0,.string s)] ?_ ?_)
 ·
  refine zS ?_;refine rr rfl (rd_len rfl rfl (len_string Tryz.underlying9)) ?_;refine zA ?_;refine re_bool (d:=8) rfl (fun h8=>?_) (fun h8=>?_)
  ·
   refine zg ?_
   exact⟨rfl,⟨bl (by unfold nameB hd0;simp only[h8,BLs]),rfl,trivial⟩,hl⟩
  refine zA ?_;refine rr rfl (rd_len rfl rfl (len_string Tryz.underlying9)) ?_;refine zA ?_;refine re_bool (d:=13) rfl (fun h13=>?_) (fun h13=>?_)
  ·
   refine zg ?_
   exact⟨rfl,⟨bl (by unfold nameB hd0;simp only[h13,h8,BLs]),rfl,trivial⟩,hl⟩
  refine zg ?_;refine rr rfl (rd_index rfl rfl rfl (index_string Tryz.underlying9 (Int.le_refl 0) (nth_hd h8))) ?_;refine zg ?_;refine re_bool (d:=18) rfl (fun h18=>?_) (fun h18=>?_)
  ·
   refine zg ?_
   exact⟨rfl,⟨bl (by unfold nameB hd0;simp only[h18,h13,h8,BLs]),rfl,trivial⟩,hl⟩
  refine zg ?_;refine rr rfl (rd_index rfl rfl rfl (index_string Tryz.underlying9 (Int.le_refl 0) (nth_hd h8))) ?_;refine zg ?_
  exact⟨rfl,⟨bl (by unfold nameB hd0;simp only[h18,h13,h8,BLs]),rfl,trivial⟩,hl⟩
 intro S1 hl
 refine zg ?_
 constructor<;>intro h22
 ·
  refine zg ?_
  exact(z1 rfl ⟨hl.keep,congrArg Value.bool (by unfold nameF;rw[h22];rfl)⟩)
 refine xp_skip rfl ?_;refine xp_seq rfl ?_;refine zS ?_;refine rr rfl (rd_len rfl rfl (len_string Tryz.underlying9)) ?_;refine zA ?_;refine xp_block rfl ?_
 -- LOOP
 refine xe_sub (L':=[(25,.int .i64 0),(24,.int .i64 s.data.toList.length),(0,.string s)]) ⟨rfl,rfl,rfl,trivial⟩ ?_
 have hn:s.data.toList.length≤20:=nameB_len h22
 refine xp_loop rfl (fun m L S'=>∃i:Nat,i≤s.data.toList.length∧m=s.data.toList.length-i∧SubE [(25,.int .i64 (i:Int)),(24,.int .i64 s.data.toList.length),(0,.string s)] L∧(∀j,j<i→∀c,nth s.data.toList j=some c→okc c.toNat=true)∧Hold S [S] S' []) ?_ (m:=s.data.toList.length) ⟨0,by omega,rfl,⟨rfl,rfl,rfl,trivial⟩,fun j hj=>by omega,hl⟩
 clear hl;rintro m L S' ⟨i,hi,rfl,hs,hok,hl⟩;refine xe_sub hs ?_
 refine zg ?_
 constructor<;>intro h26
 ·
  have hlt:i<s.data.toList.length:=by have:=of_decide_eq_true h26;omega
  obtain⟨c,hc⟩:=nth_some hlt
  refine zg ?_;refine rr rfl (rd_index rfl rfl rfl (index_string Tryz.underlying9 (by omega) (hc))) ?_;refine zA ?_;refine xp_seq rfl (xe_toL hl [(48,.bool (!okc c.toNat)),(25,.int .i64 (i:Int)),(24,.int .i64 s.data.toList.length),(0,.string s)] ?_ ?_)
  ·
   refine zg ?_;refine re_bool (d:=33) rfl (fun h33=>?_) (fun h33=>?_)
   ·
    refine zg ?_;refine re_bool (d:=40) rfl (fun h40=>?_) (fun h40=>?_)
    ·
     refine zg ?_
     exact⟨rfl,⟨bl (by unfold okc;simp only[h40,h33,BLs]),rfl,rfl,rfl,trivial⟩,hl⟩
    refine zg ?_;refine re_bool (d:=45) rfl (fun h45=>?_) (fun h45=>?_)
    ·
     refine zg ?_
     exact⟨rfl,⟨bl (by unfold okc;simp only[h45,h40,h33,BLs]),rfl,rfl,rfl,trivial⟩,hl⟩
    refine zg ?_
    exact⟨rfl,⟨bl (by unfold okc;simp only[h45,h40,h33,BLs]),rfl,rfl,rfl,trivial⟩,hl⟩
   refine zg ?_;refine re_bool (d:=37) rfl (fun h37=>?_) (fun h37=>?_)
   ·
    refine zg ?_;refine re_bool (d:=40) rfl (fun h40=>?_) (fun h40=>?_)
    ·
     refine zg ?_
     exact⟨rfl,⟨bl (by unfold okc;simp only[h40,h37,h33,BLs]),rfl,rfl,rfl,trivial⟩,hl⟩
    refine zg ?_;refine re_bool (d:=45) rfl (fun h45=>?_) (fun h45=>?_)
    ·
     refine zg ?_
     exact⟨rfl,⟨bl (by unfold okc;simp only[h45,h40,h37,h33,BLs]),rfl,rfl,rfl,trivial⟩,hl⟩
    refine zg ?_
    exact⟨rfl,⟨bl (by unfold okc;simp only[h45,h40,h37,h33,BLs]),rfl,rfl,rfl,trivial⟩,hl⟩
   refine zg ?_
   exact⟨rfl,⟨bl (by unfold okc;simp only[h37,h33,BLs]),rfl,rfl,rfl,trivial⟩,hl⟩
  intro S1 hl
  refine zg ?_
  constructor<;>intro h48
  ·
   refine zg ?_
   refine blk_ret (thn_ret (round_ret (blk_ret ((z1 rfl ⟨hl.keep,congrArg Value.bool (by unfold nameF;rw[all_no hc (by simpa using h48),Bool.and_false])⟩)))))
  refine xp_skip rfl ?_;refine xg (by kernel_rfl) ?_;refine rr rfl (rd_bin rfl rfl rfl rfl) ?_;refine rm rfl ?_;refine re_end rfl ?_
  refine⟨s.data.toList.length-(i+1),by omega,i+1,by omega,rfl,⟨congrArg some (congrArg (Value.int .i64) (IntWalk.i64_in _ (by omega))),rfl,rfl,trivial⟩,fun j hj y hy=>?_,hl⟩
  rcases Nat.lt_succ_iff_lt_or_eq.1 hj with hj|rfl
  ·exact hok j hj y hy
  rw[hc]at hy;cases hy;simpa using h48
 refine zg ?_
 refine y1 rfl ⟨hl.keep,congrArg Value.bool (by unfold nameF;rw[h22,all_yes fun j hj c hc=>hok j (by have:=of_decide_eq_false h26;omega) c hc];rfl)⟩
end Go.Proofs.YtmfphenhpkgidaaGreatDoor
namespace Go.Proofs.YtmfphenhpkgidaaGreatDoor
open Go.Cm Go
set_option maxRecDepth 100000
variable{S:St}
structure Spt where
 signs:List Sg
 blank:Bool
instance:DecidableEq Spt:=fun a b=>decidable_of_iff ((a.signs,a.blank)=(b.signs,b.blank)) ⟨fun h=>by cases a;cases b;simpa using h,fun h=>by rw[h]⟩
def SpotC(S:St)(x:Spt)(c:List Value):Prop:= ∃sv,c= [sv,.bool x.blank]∧Signs S sv x.signs
def Spots(S:St)(v:Value)(L:List Spt):Prop:= ∃C,C.length=L.length∧SliceAt S 49 2 v C∧∀k x,nth L k=some x→∃c,nth C k=some c∧SpotC S x c
theorem SpotC.move{S S':St}(h:RK S S'){x:Spt}{c:List Value}(hs:SpotC S x c):SpotC S' x c:=by
 obtain⟨sv,h1,h2⟩:=hs
 exact⟨sv,h1,h2.move h⟩
theorem Spots.move{S S':St}(h:RK S S'){v:Value}{L:List Spt}(hs:Spots S v L):Spots S' v L:=by
 obtain⟨C,h1,h2,h3⟩:=hs
 exact⟨C,h1,h2.move h,fun k x hx=>by
  obtain⟨c,k1,k2⟩:=h3 k x hx
  exact⟨c,k1,k2.move h⟩⟩
theorem Spots.is{S:St}{v:Value}{L:List Spt}(h:Spots S v L):∃a cap,v= .slice a L.length cap:=by
 obtain⟨C,h1,h2,_⟩:=h
 obtain⟨a,cap,e⟩:=h2.is
 exact⟨a,cap,h1▸e⟩
theorem Spots.elem{S:St}{a:Option Addr}{len cap:Nat}{L:List Spt}(h:Spots S (.slice a len cap) L){k:Nat}{x:Spt}(hk:nth L k=some x) :
  ∃b o cs a2 cap2,a=some ⟨b,o,none⟩∧RowAt S b 49 cs∧takeN 2 (dropN (o+k*2) cs)=some [.slice a2 x.signs.length cap2,.bool x.blank]∧Signs S (.slice a2 x.signs.length cap2) x.signs:=by
 obtain⟨C,h1,h2,h3⟩:=h
 obtain⟨c,k1,sv,rfl,k3⟩:=h3 k x hk
 obtain⟨b,o,cs,e1,_,e3,e4⟩:=h2.elem k1
 obtain⟨a2,cap2,rfl⟩:=k3.is
 exact⟨b,o,cs,a2,cap2,e1,e3,e4,k3⟩
theorem Signs.front{S:St}{a:Option Addr}{len cap:Nat}{C:List Sg}(h:Signs S (.slice a len cap) C){k:Nat}(hk:k<C.length) :
  ∃a2 cap',sliceV Tryz.prog 42 (.slice a len cap) none (some (.int .i64 (k:Int))) none S=some (.slice a2 (C.take k).length cap')∧Signs S (.slice a2 (C.take k).length cap') (C.take k):=by
 obtain⟨v,h1,⟨cap',h2⟩,h3⟩:=SliceAt.front (P:=Tryz.prog) (kk:= .i64) h Tryz.underlying42 (by kernel_rfl) (by simpa using hk)
 subst h2
 have e:(C.take k).length=k:=by rw[List.length_take,Nat.min_eq_left (by omega)]
 rw[e]
 exact⟨_,_,h1,by unfold Signs;rw[List.map_take];exact h3⟩
def signsE:List Sg→List Sg→Int
 |_,[]=>0
 |pre,y::r=>bif one y !=0 then one y else bif decide (y∈pre)then 10 else signsE (pre++[y]) r
def sizeF(x:Spt):Int:=x.signs.length+bif x.blank then 1 else 0
def szB(x:Spt):Bool:=decide (sizeF x<1)||decide (sizeF x>4)
def spotsE:List Spt→Nat→Int×Int
 | [],_=>(0,0)
 |x::L,i=>bif szB x then(3,i)else bif signsE [] x.signs !=0 then(signsE [] x.signs,i)else spotsE L (i+1)
def checkF(nm:List UInt8)(L:List Spt):Int×Int:=bif !nameF nm then(7,0)else bif decide ((L.length:Int)>400)then(11,0)else spotsE L 0
theorem drop_nth'{α:Type}:∀{l:List α} {i:Nat} {x:α},nth l i=some x→l.drop i=x::l.drop (i+1)
 | [],_,_,h=>by cases h
 |y::l,0,x,h=>by cases h;rfl
 |y::l,i+1,x,h=>by simpa using drop_nth' (l:=l) (i:=i) h
theorem take_nth'{α:Type}:∀{l:List α} {i:Nat} {x:α},nth l i=some x→l.take (i+1)=l.take i++[x]
 | [],_,_,h=>by cases h
 |y::l,0,x,h=>by cases h;rfl
 |y::l,i+1,x,h=>by simpa using take_nth' (l:=l) (i:=i) h
def GrowS(S0 S:St)(v:Value)(C:List Sg):Prop:=Grow S0 S ⟨v,55,17,(C.map Sg.cells).flatten,C.length⟩
theorem cells17(s:Sg):s.cells.length=17:=rfl
theorem flat17:∀C:List Sg,((C.map Sg.cells).flatten).length=C.length*17
 | []=>rfl
 |x::C=>by simp only[List.map_cons,List.flatten_cons,List.length_append,flat17 C,cells17,List.length_cons,Nat.add_mul];omega
theorem cellV_sign(s:Sg):s.cells.all cellV=true:=rfl
theorem flatCell:∀C:List Sg,((C.map Sg.cells).flatten).all cellV=true
 | []=>rfl
 |x::C=>by simp only[List.map_cons,List.flatten_cons,List.all_append,flatCell C,cellV_sign,Bool.and_self]
theorem GrowS.signs{S0 S:St}{v:Value}{C:List Sg}(h:GrowS S0 S v C):Signs S v C :=
 Grow.sliceAt (g:=⟨v,55,17,(C.map Sg.cells).flatten,C.length⟩) h (by simp) rfl (fun x hx=>by
  obtain⟨s,_,rfl⟩:=List.mem_map.1 hx
  rfl)
theorem clone_grow{S0 S:St}{v:Value}{C:List Sg}(h:Grow S0 S ⟨v,55,17,[]++(C.map Sg.cells).flatten,0+C.length⟩):GrowS S0 S v C:=by
 rw[List.nil_append,Nat.zero_add]at h
 exact h
end Go.Proofs.YtmfphenhpkgidaaGreatDoor
namespace Go.Proofs.YtmfphenhpkgidaaGreatDoor
open Go.Cm Go
set_option maxRecDepth 100000
variable{S:St}
theorem signsE_step{pre r:List Sg}{y:Sg}(h1:(one y !=0)=false)(h2:decide (y∈pre)=false):signsE pre (y::r)=signsE (pre++[y]) r:=by
 rw[signsE,h1,h2];rfl
theorem signsE_one{pre r:List Sg}{y:Sg}(h1:(one y !=0)=true):signsE pre (y::r)=one y:=by
 rw[signsE,h1];rfl
theorem signsE_dup{pre r:List Sg}{y:Sg}(h1:(one y !=0)=false)(h2:decide (y∈pre)=true):signsE pre (y::r)=10:=by
 rw[signsE,h1,h2];rfl
theorem spotsE_size{x:Spt}{r:List Spt}{i:Nat}(h:szB x=true):spotsE (x::r) i=(3,(i:Int)):=by
 rw[spotsE,h];rfl
theorem spotsE_err{x:Spt}{r:List Spt}{i:Nat}(h:szB x=false){e:Int}(he:signsE [] x.signs=e)(h0:(e !=0)=true):spotsE (x::r) i=(e,(i:Int)):=by
 rw[spotsE,h,he,h0];rfl
theorem spotsE_step{x:Spt}{r:List Spt}{i:Nat}(h:szB x=false)(he:signsE [] x.signs=0):spotsE (x::r) i=spotsE r (i+1):=by
 rw[spotsE,h,he];rfl
theorem res2{a b:Int}{p:Int×Int}(h:(a,b)=p):tupV [.int .i64 a,.int .i64 b]=tupV [.int .i64 p.1,.int .i64 p.2]:=by subst h;rfl
noncomputable def c9:Code:=Tryz.f9.body.getD .skip
theorem spec9(nm:ByteArray)(a:Option Addr)(cap:Nat)(L:List Spt)(hn:L.length≤1000)(hs:∀x,x∈L→x.signs.length≤1000)(hG:Gl S)(hv:Spots S (.slice a L.length cap) L):CC Tryz.prog KK 9 [aggL [.string nm,.slice a L.length cap]] S (fun v S'=>Keep S S'∧v=tupV [.int .i64 (checkF nm.data.toList L).1,.int .i64 (checkF nm.data.toList L).2]):=by
 refine cc_enter (c:=c9) (n:=57) Tryz.func9 rfl rfl rfl (by kernel_rfl) rfl rfl ?_
 have hl:=Hold.start S
 refine zg ?_;refine re_boxL hl rfl rfl rfl rfl rfl rfl ?_;intro B1 S1 hl;refine zg ?_
 refine zc hl rfl (spec35 nm) ?_;rintro v S1 hk1 rfl hl
 refine rr rfl (rd_un rfl rfl rfl) ?_;refine zg ?_
 constructor<;>intro h12
 ·
  refine zg ?_
  exact(z2 rfl rfl ⟨hl.keep,res2 (by unfold checkF;rw[h12];rfl)⟩)
 refine zg ?_
 constructor<;>intro h16
 ·
  refine zg ?_
  exact(z2 rfl rfl ⟨hl.keep,res2 (by unfold checkF;rw[h12,h16];rfl)⟩)
 refine xp_skip rfl ?_;refine xp_seq rfl ?_;refine zS ?_;refine xp_block rfl ?_
 -- LOOP
 have hck:checkF nm.data.toList L=spotsE L 0:=by unfold checkF;rw[h12,h16];rfl
 refine xe_sub (L':=[(20,.int .i64 0),(19,.int .i64 L.length),(18,.slice a L.length cap),(1,ptrTo B1 0)]) ⟨rfl,rfl,rfl,rfl,trivial⟩ ?_
 refine xp_loop rfl (fun m Le S'=>∃i:Nat,i≤L.length∧m=L.length-i∧SubE [(20,.int .i64 (i:Int)),(19,.int .i64 L.length),(18,.slice a L.length cap),(1,ptrTo B1 0)] Le∧spotsE (L.drop i) i=spotsE L 0∧Hold S [S] S' [(B1,.cells [.string nm,.slice a L.length cap] 24 false true [])]) ?_ (m:=L.length) ⟨0,by omega,rfl,⟨rfl,rfl,rfl,rfl,trivial⟩,rfl,hl⟩
 clear hl;rintro m Le S' ⟨i,hi,rfl,hsub,hpr,hl⟩;refine xe_sub hsub ?_
 refine zg ?_
 constructor<;>intro h21
 ·
  have hlt:i<L.length:=by have:=of_decide_eq_true h21;omega
  obtain⟨x,hx⟩:=nth_some hlt
  obtain⟨b,o,cs,a2,cap2,rfl,hrow,htk,hsg⟩:=hv.elem hx
  have hxs:x.signs.length≤1000:=hs x (nth_mem hx)
  refine zg ?_;refine re_allocL hl rfl rfl rfl rfl rfl (z:=[.slice none 0 0,.bool false]) (by kernel_rfl) ?_;intro B5 S5 hl;refine zg ?_;refine re_storeL hl 0 rfl rfl rfl rfl rfl rfl rfl (by kernel_rfl) rfl ?_;intro S1 hl;refine zA ?_;refine xp_seq rfl ?_;refine xp_seq rfl (xe_toL hl [(32,.bool (szB x)),(5,ptrTo B5 0),(4,.int .i64 (i:Int)),(20,.int .i64 (i:Int)),(19,.int .i64 L.length),(18,.slice (some ⟨b,o,none⟩) L.length cap),(1,ptrTo B1 0)] ?_ ?_)
  ·
   refine zg ?_
   refine zc hl rfl (spec36 a2 x.signs.length cap2 x.blank hxs) ?_;rintro v S1 hk1 rfl hl
   refine zg ?_;refine re_bool (d:=28) rfl (fun h28=>?_) (fun h28=>?_)
   ·
    refine zg ?_
    exact⟨rfl,⟨bl (by unfold szB sizeF;simp only[h28,BLs]),rfl,rfl,rfl,rfl,rfl,rfl,trivial⟩,hl⟩
   refine zg ?_
   refine zc hl rfl (spec36 a2 x.signs.length cap2 x.blank hxs) ?_;rintro v S1 hk1 rfl hl
   refine zg ?_
   exact⟨rfl,⟨bl (by unfold szB sizeF;simp only[h28,BLs]),rfl,rfl,rfl,rfl,rfl,rfl,trivial⟩,hl⟩
  intro S1 hl
  refine zg ?_
  constructor<;>intro h32
  ·
   refine zg ?_
   refine thn_ret (blk_ret (thn_ret (round_ret (blk_ret ((z2 rfl rfl ⟨hl.keep,res2 (by rw[hck,←hpr,drop_nth' hx,spotsE_size h32])⟩))))))
  refine xp_skip rfl ?_;refine zS ?_;refine xp_block rfl ?_
  -- LOOP
  refine xe_sub (L':=[(37,.int .i64 0),(36,.int .i64 x.signs.length),(35,.slice a2 x.signs.length cap2),(5,ptrTo B5 0),(4,.int .i64 (i:Int)),(20,.int .i64 (i:Int)),(19,.int .i64 L.length),(18,.slice (some ⟨b,o,none⟩) L.length cap),(1,ptrTo B1 0)]) ⟨rfl,rfl,rfl,rfl,rfl,rfl,rfl,rfl,rfl,trivial⟩ ?_
  refine xp_loop rfl (fun m Le S'=>∃k:Nat,k≤x.signs.length∧m=x.signs.length-k∧SubE [(37,.int .i64 (k:Int)),(36,.int .i64 x.signs.length),(35,.slice a2 x.signs.length cap2),(5,ptrTo B5 0),(4,.int .i64 (i:Int)),(20,.int .i64 (i:Int)),(19,.int .i64 L.length),(18,.slice (some ⟨b,o,none⟩) L.length cap),(1,ptrTo B1 0)] Le∧signsE (x.signs.take k) (x.signs.drop k)=signsE [] x.signs∧Hold S [S] S' [(B5,.cells [.slice a2 x.signs.length cap2,.bool x.blank] 49 false true []),(B1,.cells [.string nm,.slice (some ⟨b,o,none⟩) L.length cap] 24 false true [])]) ?_ (m:=x.signs.length) ⟨0,by omega,rfl,⟨rfl,rfl,rfl,rfl,rfl,rfl,rfl,rfl,rfl,trivial⟩,rfl,hl⟩
  clear hl;rintro m Le S' ⟨k,hk,rfl,hsub2,hin,hl⟩;refine xe_sub hsub2 ?_
  refine zg ?_
  constructor<;>intro h38
  ·
   have hlt2:k<x.signs.length:=by have:=of_decide_eq_true h38;omega
   obtain⟨y,hy⟩:=nth_some hlt2
   obtain⟨b2,o2,cs2,rfl,_,hrow2,htk2⟩:=hsg.elem hy
   refine zg ?_;refine re_allocL hl rfl rfl rfl rfl rfl (z:=[.int .i64 0,.int .i64 0,.int .i64 0,.int .i64 0,.bool false,.int .i64 0,.bool false,.bool false,.int .i64 0,.int .i64 0,.int .i64 0,.int .i64 0,.bool false,.int .i64 0,.int .i64 0,.int .i64 0,.int .i64 0]) (by kernel_rfl) ?_;intro B7 S7 hl;refine zg ?_;refine re_storeL hl 0 rfl rfl rfl rfl rfl rfl rfl (by kernel_rfl) rfl ?_;intro S1 hl;refine zg ?_
   refine zc hl rfl (spec37 y (hG.keep hl.keep)) ?_;rintro v S1 hk1 rfl hl
   refine zg ?_
   constructor<;>intro h45
   ·
    refine zg ?_
    refine thn_ret (blk_ret (thn_ret (round_ret (blk_ret (blk_ret (thn_ret (round_ret (blk_ret ((z2 rfl rfl ⟨hl.keep,res2 (by rw[hck,←hpr,drop_nth' hx,spotsE_err h32 (by rw[←hin,drop_nth' hy,signsE_one h45]) h45])⟩))))))))))
   refine zg ?_
   obtain⟨a3,cap3,hsl,hsg3⟩:=(hsg.move (hl.since 0 rfl)).front hlt2
   refine xp_draw (idx:=[0,1,2,3,4,5]) rfl (by kernel_rfl) (by kernel_rfl) ?_;refine zg ?_;refine pk rfl (rd_slice rfl rfl rfl rfl rfl hsl) ?_;refine zg ?_
   refine zp hl rfl (spec38 a3 cap3 (x.signs.take k) y (by rw[List.length_take];omega) hsg3) ?_;rintro v S1 hk1 rfl hl;refine⟨⟨stays_no (by kernel_rfl),stays_no (by kernel_rfl),stays_no (by kernel_rfl),trivial⟩,?_⟩
   refine zg ?_
   constructor<;>intro h53
   ·
    refine zg ?_
    refine blk_ret (thn_ret (round_ret (blk_ret (blk_ret (thn_ret (round_ret (blk_ret ((z2 rfl rfl ⟨hl.keep,res2 (by rw[hck,←hpr,drop_nth' hx,spotsE_err h32 (by rw[←hin,drop_nth' hy,signsE_dup h45 h53]) rfl])⟩)))))))))
   refine xp_skip rfl ?_;refine xg (by kernel_rfl) ?_;refine rr rfl (rd_bin rfl rfl rfl rfl) ?_;refine rm rfl ?_;refine re_end rfl ?_
   exact⟨x.signs.length-(k+1),by omega,k+1,by omega,rfl,⟨congrArg some (congrArg (Value.int .i64) (IntWalk.i64_in _ (by omega))),rfl,rfl,rfl,rfl,rfl,rfl,rfl,rfl,trivial⟩,by rw[take_nth' hy,←signsE_step h45 h53,←drop_nth' hy];exact hin,hl.tail⟩
  refine xp_exit rfl ?_;refine xg (by kernel_rfl) ?_;refine rr rfl (rd_bin rfl rfl rfl rfl) ?_;refine rm rfl ?_;refine re_end rfl ?_
  have he0:signsE [] x.signs=0:=by
   rw[←hin,List.drop_eq_nil_of_le (by have:=of_decide_eq_false h38;omega)];rfl
  exact⟨L.length-(i+1),by omega,i+1,by omega,rfl,⟨congrArg some (congrArg (Value.int .i64) (IntWalk.i64_in _ (by omega))),rfl,rfl,rfl,trivial⟩,by rw[←spotsE_step h32 he0,←drop_nth' hx];exact hpr,hl.tail⟩
 refine zg ?_
 refine y2 rfl rfl ⟨hl.keep,res2 (by rw[hck,←hpr,List.drop_eq_nil_of_le (by have:=of_decide_eq_false h21;omega)];rfl)⟩
end Go.Proofs.YtmfphenhpkgidaaGreatDoor
namespace Go.Proofs.YtmfphenhpkgidaaGreatDoor
open Go.Cm Go
set_option maxRecDepth 100000
variable{S:St}
def difB(n1 n2:List UInt8)(L1 L2:List Spt):Bool:=!sameBytes n1 n2||((L1.length:Int) !=(L2.length:Int))
def SrcAt(S:St)(v:Value)(nm:ByteArray)(L:List Spt):Prop:= ∃sv,v=aggL [.string nm,sv]∧Spots S sv L
theorem SrcAt.move{S S':St}(h:RK S S'){v:Value}{nm:ByteArray}{L:List Spt}(hs:SrcAt S v nm L):SrcAt S' v nm L:=by
 obtain⟨sv,h1,h2⟩:=hs
 exact⟨sv,h1,h2.move h⟩
theorem Grow.is{S0 S:St}{g:Gr}(h:Grow S0 S g):∃a,g.v= .slice a g.n g.n:=by
 rcases h with ⟨h1,_,h3⟩|⟨b,kin,h1,_⟩
 ·exact⟨none,by rw[h1,h3]⟩
 exact⟨_,h1⟩
def PtsAt(S:St)(D:List (List Value))(out:List Spt):Prop:=D.length=out.length∧(∀d,d∈D→d.length=2)∧∀k x,nth out k=some x→∃c,nth D k=some c∧SpotC S x c
theorem PtsAt.move{S S':St}(h:RK S S'){D:List (List Value)}{out:List Spt}(hp:PtsAt S D out):PtsAt S' D out:=⟨hp.1,hp.2.1,fun k x hx=>by
 obtain⟨c,k1,k2⟩:=hp.2.2 k x hx
 exact⟨c,k1,k2.move h⟩⟩
theorem nth_push{α:Type}:∀{l:List α} {k:Nat} {x y:α},nth (l++[y]) k=some x→nth l k=some x∨(k=l.length∧x=y)
 | [],0,x,y,h=> .inr ⟨rfl,(Option.some.inj h).symm⟩
 | [],k+1,x,y,h=>by cases k<;>cases h
 |z::l,0,x,y,h=> .inl h
 |z::l,k+1,x,y,h=>by
  rcases nth_push (l:=l) (k:=k) h with h|⟨h1,h2⟩
  ·exact .inl h
  exact .inr ⟨by simp[h1],h2⟩
theorem nth_left{α:Type}:∀{l r:List α} {k:Nat} {x:α},nth l k=some x→nth (l++r) k=some x
 |_::_,_,0,_,h=>h
 |_::l,r,k+1,x,h=>nth_left (l:=l) (r:=r) (k:=k) h
 | [],_,_,_,h=>by cases h
theorem nth_last{α:Type}:∀{l:List α} {x:α},nth (l++[x]) l.length=some x
 | [],_=>rfl
 |_::l,x=>nth_last (l:=l) (x:=x)
theorem PtsAt.push{S:St}{D:List (List Value)}{out:List Spt}(hp:PtsAt S D out){x:Spt}{c:List Value}(hc:SpotC S x c):PtsAt S (D++[c]) (out++[x]):=by
 obtain⟨h1,h2,h3⟩:=hp
 refine⟨by simp[h1],fun d hd=>?_,fun k y hy=>?_⟩
 ·rcases List.mem_append.1 hd with hd|hd
  ·exact h2 d hd
  rw[List.mem_singleton.1 hd]
  obtain⟨sv,e,_⟩:=hc
  rw[e];rfl
 rcases nth_push hy with hy|⟨e1,e2⟩
 ·obtain⟨c2,k1,k2⟩:=h3 k y hy
  exact⟨c2,nth_left k1,k2⟩
 subst e2
 exact⟨c,by rw[e1,←h1];exact nth_last,hc⟩
theorem Grow.spots{S0 S:St}{v:Value}{D:List (List Value)}{out:List Spt}(h:Grow S0 S ⟨v,49,2,D.flatten,D.length⟩)(hp:PtsAt S D out):Spots S v out :=
 ⟨D,hp.1,Grow.sliceAt (g:=⟨v,49,2,D.flatten,D.length⟩) h rfl rfl hp.2.1,hp.2.2⟩
theorem src_row{S:St}{b o n cap z:Nat}{e:TypeId}{c new:List Value}(h:RowAt S b e c)(hn:takeN (n*z) (dropN o c)=some new):sourceCells S z n (.slice (some ⟨b,o,none⟩) n cap)=some new:=by
 obtain⟨_,own,kin,hg⟩:=h
 show readCells S b o (n*z)=_
 unfold readCells
 rw[hg]
 exact hn
theorem indexAddr_sl{t e:TypeId}{a:Option Addr}{b o len cap z:Nat}{k:IntKind}{i:Int}(ha:a=some ⟨b,o,none⟩)(hu:Tryz.prog.underlying t=some (.slice e))(hz:szOf Tryz.prog e=some z)(hi:0≤i∧i<len) :
  indexAddrV Tryz.prog t (.slice a len cap) (.int k i)=some (ptrTo b (o+i.toNat*z)):=by
 subst ha
 exact indexAddr_slice hu hz hi
end Go.Proofs.YtmfphenhpkgidaaGreatDoor
namespace Go.Proofs.YtmfphenhpkgidaaGreatDoor
open Go.Cm Go
set_option maxRecDepth 100000
variable{S:St}
theorem tk_nth{z o j:Nat}{c l:List Value}{v:Value}(h:takeN z (dropN o c)=some l)(hj:nth l j=some v):nth c (o+j)=some v:=by
 obtain⟨_,_,e⟩:=takeN_spec _ _ _ h
 subst e
 have:=nth_take hj
 rw[dropN_eq]at this
 rw[nth_eq]at this ⊢
 rw[List.getElem?_drop]at this
 exact this
def sameF(n1 n2:List UInt8)(L1 L2:List Spt):Bool:=sameBytes n1 n2&&decide (L1=L2)
theorem sameF_dif{n1 n2:List UInt8}{L1 L2:List Spt}(h:difB n1 n2 L1 L2=true):sameF n1 n2 L1 L2=false:=by
 unfold difB at h
 unfold sameF
 cases hb:sameBytes n1 n2 with
 |false=>rfl
 |true =>
  rw[hb]at h
  rw[Bool.true_and,decide_eq_false_iff_not]
  rintro rfl
  simp at h
theorem sameF_at{n1 n2:List UInt8}{L1 L2:List Spt}{i:Nat}{x y:Spt}(hx:nth L1 i=some x)(hy:nth L2 i=some y)(h:x≠y):sameF n1 n2 L1 L2=false:=by
 unfold sameF
 rw[decide_eq_false,Bool.and_false]
 rintro rfl
 rw[hx]at hy
 exact h (Option.some.inj hy)
theorem sameF_all{n1 n2:List UInt8}{L1 L2:List Spt}(h:difB n1 n2 L1 L2=false)(hj:∀j,j<L1.length→nth L1 j=nth L2 j):sameF n1 n2 L1 L2=true:=by
 unfold difB at h
 simp only[Bool.or_eq_false_iff,Bool.not_eq_false']at h
 unfold sameF
 rw[h.1,Bool.true_and,decide_eq_true_iff]
 exact nth_ext (by have:=h.2;simp at this;omega) hj
noncomputable def c16:Code:=Tryz.f16.body.getD .skip
theorem spec16(n1 n2:ByteArray)(a1 a2:Option Addr)(cap1 cap2:Nat)(L1 L2:List Spt)(hn1:L1.length≤1000)(hs1:∀x,x∈L1→x.signs.length≤1000)(hv1:Spots S (.slice a1 L1.length cap1) L1)(hv2:Spots S (.slice a2 L2.length cap2) L2):CC Tryz.prog KK 16 [aggL [.string n1,.slice a1 L1.length cap1],aggL [.string n2,.slice a2 L2.length cap2]] S (fun v S'=>Keep S S'∧v= .bool (sameF n1.data.toList n2.data.toList L1 L2)):=by
 refine cc_enter (c:=c16) (n:=56) Tryz.func16 rfl rfl rfl (by kernel_rfl) rfl rfl ?_
 have hl:=Hold.start S
 refine zg ?_;refine re_boxL hl rfl rfl rfl rfl rfl rfl ?_;intro B2 S2 hl;refine re_boxL hl rfl rfl rfl rfl rfl rfl ?_;intro B3 S3 hl;refine zA ?_;refine xp_seq rfl ?_;refine xp_seq rfl (xe_toL hl [(19,.bool (difB n1.data.toList n2.data.toList L1 L2)),(3,ptrTo B3 0),(2,ptrTo B2 0)] ?_ ?_)
 ·
  refine zg ?_;refine re_bool (d:=11) rfl (fun h11=>?_) (fun h11=>?_)
  ·
   refine zg ?_
   exact⟨rfl,⟨bl (by unfold difB;simp only[h11,BLs]),rfl,rfl,trivial⟩,hl⟩
  refine zg ?_
  exact⟨rfl,⟨bl (by unfold difB;simp only[h11,BLs]),rfl,rfl,trivial⟩,hl⟩
 intro S1 hl
 refine zg ?_
 constructor<;>intro h19
 ·
  refine zg ?_
  exact(z1 rfl ⟨hl.keep,congrArg Value.bool (by rw[sameF_dif h19])⟩)
 refine xp_skip rfl ?_;refine xp_seq rfl ?_;refine zS ?_;refine xp_block rfl ?_
 -- LOOP
 have hlen:L1.length=L2.length:=by
  unfold difB at h19;simp at h19;omega
 refine xe_sub (L':=[(5,.int .i64 0),(3,ptrTo B3 0),(2,ptrTo B2 0)]) ⟨rfl,rfl,rfl,trivial⟩ ?_
 refine xp_loop rfl (fun m Le S'=>∃i:Nat,i≤L1.length∧m=L1.length-i∧SubE [(5,.int .i64 (i:Int)),(3,ptrTo B3 0),(2,ptrTo B2 0)] Le∧(∀j,j<i→nth L1 j=nth L2 j)∧Hold S [S] S' [(B3,.cells [.string n2,.slice a2 L2.length cap2] 24 false true []),(B2,.cells [.string n1,.slice a1 L1.length cap1] 24 false true [])]) ?_ (m:=L1.length) ⟨0,by omega,rfl,⟨rfl,rfl,rfl,trivial⟩,fun j hj=>by omega,hl⟩
 clear hl;rintro m Le S' ⟨i,hi,rfl,hsub,heq,hl⟩;refine xe_sub hsub ?_
 refine zg ?_
 constructor<;>intro h24
 ·
  have hlt:i<L1.length:=by have:=of_decide_eq_true h24;omega
  obtain⟨x,hx⟩:=nth_some hlt
  obtain⟨y,hy⟩:=nth_some (hlen▸hlt)
  obtain⟨bx,ox,csx,ax,capx,hax,hrowx,htkx,hsgx⟩:=hv1.elem hx
  obtain⟨by_,oy,csy,ay,capy,hay,hrowy,htky,hsgy⟩:=hv2.elem hy
  have hxs:x.signs.length≤1000:=hs1 x (nth_mem hx)
  refine zg ?_;refine xp_draw (idx:=[0,1,2,3,4,5,6,7,8,9,10,11,12,13,14,15,16,17,18,19,20,21,22,23,24,25,26,27,28]) rfl (by kernel_rfl) (by kernel_rfl) ?_;refine zg ?_;refine rp_bool (d:=40) rfl (fun h40=>?_) (fun h40=>?_)
  ·
   refine zA ?_;refine xp_cond_t rfl rfl ?_;refine zg ?_
   refine blk_ret (thn_ret (round_ret (blk_ret ((z1 rfl ⟨hl.keep,congrArg Value.bool (by rw[sameF_at hx hy (fun e=>by rw[e]at h40;simp at h40)])⟩)))))
  refine zg ?_
  refine zp hl rfl (spec50 ax ay capx capy x.signs y.signs hxs (hsgx.move (hl.since 0 rfl)) (hsgy.move (hl.since 0 rfl))) ?_;rintro v S1 hk1 rfl hl;refine⟨stays_all (by kernel_rfl),?_⟩
  refine pr rfl (rd_un rfl rfl rfl) ?_;refine zg ?_
  constructor<;>intro h55
  ·
   refine zg ?_
   refine blk_ret (thn_ret (round_ret (blk_ret ((z1 rfl ⟨hl.keep,congrArg Value.bool (by rw[sameF_at hx hy (fun e=>by rw[e]at h55;simp at h55)])⟩)))))
  refine xp_skip rfl ?_;refine xg (by kernel_rfl) ?_;refine rm rfl ?_;refine rr rfl (rd_bin rfl rfl rfl rfl) ?_;refine rm rfl ?_;refine re_end rfl ?_
  refine⟨L1.length-(i+1),by omega,i+1,by omega,rfl,⟨congrArg some (congrArg (Value.int .i64) (IntWalk.i64_in _ (by omega))),rfl,rfl,trivial⟩,fun j hj=>?_,hl⟩
  rcases Nat.lt_succ_iff_lt_or_eq.1 hj with hj|rfl
  ·exact heq j hj
  rw[hx,hy]
  have e1:x.blank=y.blank:=by simpa using h40
  have e2:x.signs=y.signs:=by simpa using h55
  cases x;cases y
  simp only at e1 e2
  rw[e1,e2]
 refine zg ?_
 refine y1 rfl ⟨hl.keep,congrArg Value.bool (by rw[sameF_all h19 (fun j hj=>heq j (by have:=of_decide_eq_false h24;omega))])⟩
end Go.Proofs.YtmfphenhpkgidaaGreatDoor
namespace Go.Proofs.YtmfphenhpkgidaaGreatDoor
open Go.Cm Go
set_option maxRecDepth 100000
variable{S:St}
theorem rep_int{P:Program}{n:Nat}{t:TypeId}{k:IntKind}{c:List Value}(h:Rep P (n+1) t S c)(hu:P.underlying t=some (.int k)):∃m,c= [.int k m]:=by
 unfold Rep at h
 rw[hu]at h
 obtain⟨m,h,_⟩:=h
 exact⟨m,h⟩
theorem rep_bool{P:Program}{n:Nat}{t:TypeId}{c:List Value}(h:Rep P (n+1) t S c)(hu:P.underlying t=some .bool):∃b,c= [.bool b]:=by
 unfold Rep at h
 rw[hu]at h
 exact h
theorem rep_string{P:Program}{n:Nat}{t:TypeId}{c:List Value}(h:Rep P (n+1) t S c)(hu:P.underlying t=some .string):∃s,c= [.string s]:=by
 unfold Rep at h
 rw[hu]at h
 obtain⟨s,h,_⟩:=h
 exact⟨s,h⟩
theorem rep_len{P:Program}{n:Nat}{t:TypeId}{fs:Array Field}{c:List Value}{z:Nat}(h:Rep P (n+1) t S c)(hu:P.underlying t=some (.struct fs))(hz:P.cellsOf t=z):c.length=z:=by
 unfold Rep at h
 rw[hu]at h
 exact h.1.trans hz
theorem rep_field{P:Program}{n j z:Nat}{t:TypeId}{fs:Array Field}{f:Field}{c:List Value}(h:Rep P (n+1) t S c)(hu:P.underlying t=some (.struct fs))(hf:nth fs.toList j=some f)(hz:P.cellsOf f.type=z):Rep P n f.type S ((c.drop f.offset).take z):=by
 unfold Rep at h
 rw[hu]at h
 rw[←hz]
 exact h.2 f (nth_mem hf)
theorem nth_range{α:Type}(f:Nat→α):∀(n k i:Nat),i<n→nth ((List.range' k n).map f) i=some (f (k+i))
 |n+1,k,0,_=>rfl
 |n+1,k,i+1,h=>by
  show nth ((List.range' (k+1) n).map f) i=_
  rw[nth_range f n (k+1) i (by omega)]
  congr 2;omega
theorem rep_slice{P:Program}{n z:Nat}{t e:TypeId}{c:List Value}(h:Rep P (n+1) t S c)(hu:P.underlying t=some (.slice e))(hz:P.cellsOf e=z):∃v C,c= [v]∧SliceAt S e z v C∧∀x,x∈C→Rep P n e S x:=by
 unfold Rep at h
 rw[hu]at h
 rcases h with h|⟨b,o,k,h⟩|⟨b,len,cs,h1,h2,h3,h4,h5,h6⟩
 ·exact⟨_,[],h,.inl ⟨rfl,.inl rfl⟩,fun x hx=>(List.not_mem_nil hx).elim⟩
 ·exact⟨_,[],h,.inl ⟨rfl,.inr ⟨b,o,k,rfl⟩⟩,fun x hx=>(List.not_mem_nil hx).elim⟩
 refine⟨_,(List.range' 0 len).map (fun i=>(cs.drop (i*z)).take z),h1,.inr ⟨b,0,len,cs,by simp,by simp,⟨h2,_,_,h3⟩,fun k x hk=>?_⟩,fun x hx=>?_⟩
 ·have hlt:k<len:=by have:=nth_lt hk;simpa using this
  rw[nth_range _ _ _ _ hlt]at hk
  cases hk
  rw[dropN_eq,Nat.zero_add,Nat.zero_add,takeN_some]
  rw[List.length_drop,h4,hz]
  have:(k+1)*z≤len*z:=Nat.mul_le_mul_right z hlt
  rw[Nat.add_mul]at this
  omega
 obtain⟨i,hi,rfl⟩:=List.mem_map.1 hx
 rw[List.mem_range'_1]at hi
 have:=h6 i (by omega)
 rw[hz]at this
 exact this
theorem uncons{c:List Value}{n:Nat}(h:c.length=n+1):∃x r,c=x::r∧r.length=n:=by
 cases c with
 |nil=>cases h
 |cons x r=>exact⟨x,r,rfl,by simpa using h⟩
theorem rep_mens{c:List Value}{n:Nat}(h:Rep Tryz.prog (n+2) 51 S c):∃a b d e,c= [.int .i64 a,.int .i64 b,.int .i64 d,.int .i64 e]:=by
 have hl0:=rep_len h Tryz.underlying51 (z:=4) (by kernel_rfl)
 obtain⟨x0,r0,rfl,hl1⟩:=uncons hl0
 obtain⟨x1,r1,rfl,hl2⟩:=uncons hl1
 obtain⟨x2,r2,rfl,hl3⟩:=uncons hl2
 obtain⟨x3,r3,rfl,hl4⟩:=uncons hl3
 obtain rfl:=List.length_eq_zero_iff.1 hl4
 obtain⟨a0,e0⟩:=rep_int (rep_field h Tryz.underlying51 (j:=0) (z:=1) rfl (by kernel_rfl)) Tryz.underlying3
 obtain⟨a1,e1⟩:=rep_int (rep_field h Tryz.underlying51 (j:=1) (z:=1) rfl (by kernel_rfl)) Tryz.underlying3
 obtain⟨a2,e2⟩:=rep_int (rep_field h Tryz.underlying51 (j:=2) (z:=1) rfl (by kernel_rfl)) Tryz.underlying3
 obtain⟨a3,e3⟩:=rep_int (rep_field h Tryz.underlying51 (j:=3) (z:=1) rfl (by kernel_rfl)) Tryz.underlying3
 cases e0;cases e1;cases e2;cases e3
 exact⟨a0,a1,a2,a3,rfl⟩
theorem rep_clef{c:List Value}{n:Nat}(h:Rep Tryz.prog (n+2) 53 S c):∃a b,c= [.int .i64 a,.int .i64 b]:=by
 have hl0:=rep_len h Tryz.underlying53 (z:=2) (by kernel_rfl)
 obtain⟨x0,r0,rfl,hl1⟩:=uncons hl0
 obtain⟨x1,r1,rfl,hl2⟩:=uncons hl1
 obtain rfl:=List.length_eq_zero_iff.1 hl2
 obtain⟨a0,e0⟩:=rep_int (rep_field h Tryz.underlying53 (j:=0) (z:=1) rfl (by kernel_rfl)) Tryz.underlying3
 obtain⟨a1,e1⟩:=rep_int (rep_field h Tryz.underlying53 (j:=1) (z:=1) rfl (by kernel_rfl)) Tryz.underlying3
 cases e0;cases e1
 exact⟨a0,a1,rfl⟩
theorem rep_sign{c:List Value}{n:Nat}(h:Rep Tryz.prog (n+3) 55 S c):∃s:Sg,c=s.cells:=by
 have hl0:=rep_len h Tryz.underlying55 (z:=17) (by kernel_rfl)
 obtain⟨x0,r0,rfl,hl1⟩:=uncons hl0
 obtain⟨x1,r1,rfl,hl2⟩:=uncons hl1
 obtain⟨x2,r2,rfl,hl3⟩:=uncons hl2
 obtain⟨x3,r3,rfl,hl4⟩:=uncons hl3
 obtain⟨x4,r4,rfl,hl5⟩:=uncons hl4
 obtain⟨x5,r5,rfl,hl6⟩:=uncons hl5
 obtain⟨x6,r6,rfl,hl7⟩:=uncons hl6
 obtain⟨x7,r7,rfl,hl8⟩:=uncons hl7
 obtain⟨x8,r8,rfl,hl9⟩:=uncons hl8
 obtain⟨x9,r9,rfl,hl10⟩:=uncons hl9
 obtain⟨x10,r10,rfl,hl11⟩:=uncons hl10
 obtain⟨x11,r11,rfl,hl12⟩:=uncons hl11
 obtain⟨x12,r12,rfl,hl13⟩:=uncons hl12
 obtain⟨x13,r13,rfl,hl14⟩:=uncons hl13
 obtain⟨x14,r14,rfl,hl15⟩:=uncons hl14
 obtain⟨x15,r15,rfl,hl16⟩:=uncons hl15
 obtain⟨x16,r16,rfl,hl17⟩:=uncons hl16
 obtain rfl:=List.length_eq_zero_iff.1 hl17
 obtain⟨a0,e0⟩:=rep_int (rep_field h Tryz.underlying55 (j:=0) (z:=1) rfl (by kernel_rfl)) Tryz.underlying3
 obtain⟨a1,e1⟩:=rep_int (rep_field h Tryz.underlying55 (j:=1) (z:=1) rfl (by kernel_rfl)) Tryz.underlying3
 obtain⟨a2,e2⟩:=rep_int (rep_field h Tryz.underlying55 (j:=2) (z:=1) rfl (by kernel_rfl)) Tryz.underlying3
 obtain⟨a3,e3⟩:=rep_int (rep_field h Tryz.underlying55 (j:=3) (z:=1) rfl (by kernel_rfl)) Tryz.underlying3
 obtain⟨a4,e4⟩:=rep_bool (rep_field h Tryz.underlying55 (j:=4) (z:=1) rfl (by kernel_rfl)) Tryz.underlying4
 obtain⟨a5,e5⟩:=rep_int (rep_field h Tryz.underlying55 (j:=5) (z:=1) rfl (by kernel_rfl)) Tryz.underlying3
 obtain⟨a6,e6⟩:=rep_bool (rep_field h Tryz.underlying55 (j:=6) (z:=1) rfl (by kernel_rfl)) Tryz.underlying4
 obtain⟨a7,e7⟩:=rep_bool (rep_field h Tryz.underlying55 (j:=7) (z:=1) rfl (by kernel_rfl)) Tryz.underlying4
 obtain⟨a8,a9,a10,a11,e8⟩:=rep_mens (rep_field h Tryz.underlying55 (j:=8) (z:=4) rfl (by kernel_rfl))
 obtain⟨a12,e12⟩:=rep_bool (rep_field h Tryz.underlying55 (j:=9) (z:=1) rfl (by kernel_rfl)) Tryz.underlying4
 obtain⟨a13,e13⟩:=rep_int (rep_field h Tryz.underlying55 (j:=10) (z:=1) rfl (by kernel_rfl)) Tryz.underlying3
 obtain⟨a14,e14⟩:=rep_int (rep_field h Tryz.underlying55 (j:=11) (z:=1) rfl (by kernel_rfl)) Tryz.underlying3
 obtain⟨a15,a16,e15⟩:=rep_clef (rep_field h Tryz.underlying55 (j:=12) (z:=2) rfl (by kernel_rfl))
 cases e0;cases e1;cases e2;cases e3;cases e4;cases e5;cases e6;cases e7;cases e8;cases e12;cases e13;cases e14;cases e15
 exact⟨⟨a0,a1,a2,a3,a4,a5,a6,a7,a8,a9,a10,a11,a12,a13,a14,a15,a16⟩,rfl⟩
theorem all_signs:∀{C:List (List Value)},(∀x,x∈C→∃s:Sg,x=s.cells)→∃L:List Sg,C=L.map Sg.cells
 | [],_=>⟨[],rfl⟩
 |x::C,h=>by
  obtain⟨s,e⟩:=h x (List.mem_cons_self ..)
  obtain⟨L,e2⟩:=all_signs (C:=C) fun y hy=>h y (List.mem_cons_of_mem _ hy)
  exact⟨s::L,by rw[e,e2];rfl⟩
theorem rep_spot{c:List Value}{n:Nat}(h:Rep Tryz.prog (n+5) 49 S c):∃x:Spt,SpotC S x c:=by
 have hl0:=rep_len h Tryz.underlying49 (z:=2) (by kernel_rfl)
 obtain⟨x0,r0,rfl,hl1⟩:=uncons hl0
 obtain⟨x1,r1,rfl,hl2⟩:=uncons hl1
 obtain rfl:=List.length_eq_zero_iff.1 hl2
 obtain⟨v,C,e0,h0,hC⟩:=rep_slice (rep_field h Tryz.underlying49 (j:=0) (z:=1) rfl (by kernel_rfl)) Tryz.underlying42 (z:=17) (by kernel_rfl)
 obtain⟨b,e1⟩:=rep_bool (rep_field h Tryz.underlying49 (j:=1) (z:=1) rfl (by kernel_rfl)) Tryz.underlying4
 obtain⟨L,rfl⟩:=all_signs fun x hx=>rep_sign (hC x hx)
 cases e0;cases e1
 exact⟨⟨L,b⟩,_,rfl,h0⟩
theorem all_spots:∀{C:List (List Value)},(∀x,x∈C→∃p:Spt,SpotC S p x)→∃L:List Spt,C.length=L.length∧∀k p,nth L k=some p→∃c,nth C k=some c∧SpotC S p c
 | [],_=>⟨[],rfl,fun k p h=>by cases k<;>cases h⟩
 |x::C,h=>by
  obtain⟨p,hp⟩:=h x (List.mem_cons_self ..)
  obtain⟨L,e,hL⟩:=all_spots (C:=C) fun y hy=>h y (List.mem_cons_of_mem _ hy)
  refine⟨p::L,by simp[e],fun k q hq=>?_⟩
  cases k with
  |zero=>obtain rfl:p=q:=Option.some.inj hq;exact⟨x,rfl,hp⟩
  |succ k=>exact hL k q hq
theorem rep_src{c:List Value}{n:Nat}(h:Rep Tryz.prog (n+7) 24 S c):∃(nm:ByteArray) (a:Option Addr) (cap:Nat) (L:List Spt),c= [.string nm,.slice a L.length cap]∧Spots S (.slice a L.length cap) L:=by
 have hl0:=rep_len h Tryz.underlying24 (z:=2) (by kernel_rfl)
 obtain⟨x0,r0,rfl,hl1⟩:=uncons hl0
 obtain⟨x1,r1,rfl,hl2⟩:=uncons hl1
 obtain rfl:=List.length_eq_zero_iff.1 hl2
 obtain⟨nm,e0⟩:=rep_string (rep_field h Tryz.underlying24 (j:=0) (z:=1) rfl (by kernel_rfl)) Tryz.underlying9
 obtain⟨v,C,e1,h1,hC⟩:=rep_slice (rep_field h Tryz.underlying24 (j:=1) (z:=1) rfl (by kernel_rfl)) Tryz.underlying22 (z:=2) (by kernel_rfl)
 obtain⟨L,hlen,hL⟩:=all_spots fun x hx=>rep_spot (hC x hx)
 have hs:Spots S v L:=⟨C,hlen,h1,hL⟩
 obtain⟨a,cap,rfl⟩:=hs.is
 cases e0;cases e1
 exact⟨nm,a,cap,L,rfl,hs⟩
end Go.Proofs.YtmfphenhpkgidaaGreatDoor
namespace Go.Proofs.YtmfphenhpkgidaaGreatDoor
open Go.Cm Go
set_option maxRecDepth 100000
variable{S:St}
theorem mem_nth{s:Sg}:∀{C:List Sg},s∈C→∃j,nth C j=some s
 | [],h=>(List.not_mem_nil h).elim
 |x::C,h=>by
  rcases List.mem_cons.1 h with rfl|h
  ·exact⟨0,rfl⟩
  obtain⟨j,hj⟩:=mem_nth h
  exact⟨j+1,hj⟩
noncomputable def c70:Code:=Tryz.f70.body.getD .skip
theorem spec70(a:Option Addr)(cap:Nat)(C:List Sg)(s:Sg)(hn:C.length≤1000)(hv:Signs S (.slice a C.length cap) C):CC Tryz.prog KK 70 [.slice a C.length cap,s.v] S (fun v S'=>Keep S S'∧v= .bool (decide (s∈C))):=by
 refine cc_enter (c:=c70) (n:=18) Tryz.func70 rfl rfl rfl (by kernel_rfl) rfl rfl ?_
 have hl:=Hold.start S
 refine zg ?_;refine re_boxL hl rfl rfl rfl rfl rfl rfl ?_;intro B3 S3 hl;refine zA ?_;refine xp_seq rfl ?_;refine zS ?_;refine xp_block rfl ?_
 -- LOOP
 refine xe_sub (L':=[(5,.int .i64 0),(3,ptrTo B3 0),(0,.slice a C.length cap)]) ⟨rfl,rfl,rfl,trivial⟩ ?_
 refine xp_loop rfl (fun m Le S'=>∃i:Nat,i≤C.length∧m=C.length-i∧SubE [(5,.int .i64 (i:Int)),(3,ptrTo B3 0),(0,.slice a C.length cap)] Le∧(∀j,j<i→∀y,nth C j=some y→y≠s)∧Hold S [S] S' [(B3,.cells s.cells 55 false true [])]) ?_ (m:=C.length) ⟨0,by omega,rfl,⟨rfl,rfl,rfl,trivial⟩,fun j hj=>by omega,hl⟩
 clear hl;rintro m Le S' ⟨i,hi,rfl,hsub,hne,hl⟩;refine xe_sub hsub ?_
 refine zg ?_
 constructor<;>intro h9
 ·
  have hlt:i<C.length:=by have:=of_decide_eq_true h9;omega
  obtain⟨x,hx⟩:=nth_some hlt
  obtain⟨b,o,cs,ha,_,hrow,htk⟩:=hv.elem hx
  refine zg ?_;refine xp_draw (idx:=[0,1,2,3,4,5]) rfl (by kernel_rfl) (by kernel_rfl) ?_;refine zg ?_;refine pr rfl (rd_bin rfl rfl rfl (eqSign' _ _ x s)) ?_;refine zg ?_
  constructor<;>intro h17
  ·
   refine zg ?_
   refine blk_ret (thn_ret (round_ret (blk_ret ((z1 rfl ⟨hl.keep,congrArg Value.bool (by symm;rw[decide_eq_true_iff];obtain rfl:x=s:=(by simpa using h17);exact nth_mem hx)⟩)))))
  refine xp_skip rfl ?_;refine xg (by kernel_rfl) ?_;refine rm rfl ?_;refine rr rfl (rd_bin rfl rfl rfl rfl) ?_;refine rm rfl ?_;refine re_end rfl ?_
  refine⟨C.length-(i+1),by omega,i+1,by omega,rfl,⟨congrArg some (congrArg (Value.int .i64) (IntWalk.i64_in _ (by omega))),rfl,rfl,trivial⟩,fun j hj y hy=>?_,hl⟩
  rcases Nat.lt_succ_iff_lt_or_eq.1 hj with hj|rfl
  ·exact hne j hj y hy
  rw[hx]at hy;cases hy;simpa using h17
 refine zg ?_
 refine y1 rfl ⟨hl.keep,congrArg Value.bool (by symm;rw[decide_eq_false_iff_not];intro hm;obtain⟨j,hj⟩:=mem_nth hm;exact hne j (by have:=nth_lt hj;have:=of_decide_eq_false h9;omega) s hj rfl)⟩
noncomputable def c41:Code:=Tryz.f41.body.getD .skip
theorem spec41(a:Option Addr)(n cap:Nat)(b:Bool)(hn:n≤1000):CC Tryz.prog KK 41 [aggL [.slice a n cap,.bool b]] S (fun v S'=>Keep S S'∧v= .int .i64 (n+bif b then 1 else 0)):=by
 refine cc_enter (c:=c41) (n:=12) Tryz.func41 rfl rfl rfl (by kernel_rfl) rfl rfl ?_
 have hl:=Hold.start S
 refine zg ?_;refine re_boxL hl rfl rfl rfl rfl rfl rfl ?_;intro B1 S1 hl;refine zg ?_
 constructor<;>intro h4
 ·
  refine xs (by kernel_rfl) ?_;refine rr rfl (rd_fieldAddr rfl rfl (fa Tryz.underlying49 az49 rfl)) ?_;refine rr rfl (rl hl 0 rfl rfl (by kernel_rfl) rfl rfl) ?_;refine rr rfl (rd_len rfl rfl (len_slice Tryz.underlying42)) ?_;refine rr rfl (rd_bin rfl rfl rfl rfl) ?_;refine rm rfl ?_;refine re_end rfl ?_;refine xp_ret rfl ?_
  refine thn_ret (done_ret (ress_tmp rfl rfl) ⟨hl.keep,congrArg (Value.int .i64) (by rw[h4];exact IntWalk.i64_in _ (by omega))⟩)
 refine zg ?_
 refine y1 rfl ⟨hl.keep,congrArg (Value.int .i64) (by rw[h4];simp)⟩
noncomputable def c24:Code:=Tryz.f24.body.getD .skip
theorem spec24(a:Option Addr)(cap:Nat)(C:List Sg)(hn:C.length≤1000)(hv:Signs S (.slice a C.length cap) C):CC Tryz.prog KK 24 [.slice a C.length cap] S (fun v S'=>Keep S S'∧GrowS S S' v C):=by
 refine cc_enter (c:=c24) (n:=6) Tryz.func24 rfl rfl rfl (by kernel_rfl) rfl rfl ?_
 have hl:=Hold.start S
 refine zg ?_;refine re_buildSliceG hl (c:=[]) 17 rfl rfl rfl rfl rfl Tryz.underlying42 rfl (by kernel_rfl) rfl ?_;intro v3 S1 hl;refine zg ?_
 have hv':=hv.move (hl.since 0 rfl)
 refine re_appendG hl 0 rfl rfl (by simp) rfl rfl rfl rfl rfl rfl rfl Tryz.underlying42 Tryz.underlying42 rfl rfl (by kernel_rfl) hv'.cells (flat17 C) (flatCell C) (by kernel_rfl) (by show 0+C.length≤maxNeed;unfold maxNeed;omega) ?_;intro v5 S1 hl;refine zg ?_
 refine y1 rfl ⟨hl.keep,clone_grow (hl.gr _ (List.mem_cons_self ..))⟩
noncomputable def c67:Code:=Tryz.f67.body.getD .skip
theorem spec67(c:Int):CC Tryz.prog KK 67 [.int .u8 c] S (fun v S'=>Keep S S'∧v= .bool (decide (97≤c)&&decide (c≤122))):=by
 refine cc_enter (c:=c67) (n:=9) Tryz.func67 rfl rfl rfl (by kernel_rfl) rfl rfl ?_
 have hl:=Hold.start S
 refine zg ?_;refine re_bool (d:=5) rfl (fun h5=>?_) (fun h5=>?_)
 ·
  refine zg ?_
  refine y1 rfl ⟨hl.keep,congrArg Value.bool (by first|(simp[h5];done)|(simp at *;simp[*];done)|(simp at *;omega))⟩
 refine zg ?_
 refine y1 rfl ⟨hl.keep,congrArg Value.bool (by first|(simp[h5];done)|(simp at *;simp[*];done)|(simp at *;omega))⟩
noncomputable def c68:Code:=Tryz.f68.body.getD .skip
theorem spec68(c:Int):CC Tryz.prog KK 68 [.int .u8 c] S (fun v S'=>Keep S S'∧v= .bool (decide (48≤c)&&decide (c≤57))):=by
 refine cc_enter (c:=c68) (n:=9) Tryz.func68 rfl rfl rfl (by kernel_rfl) rfl rfl ?_
 have hl:=Hold.start S
 refine zg ?_;refine re_bool (d:=5) rfl (fun h5=>?_) (fun h5=>?_)
 ·
  refine zg ?_
  refine y1 rfl ⟨hl.keep,congrArg Value.bool (by first|(simp[h5];done)|(simp at *;simp[*];done)|(simp at *;omega))⟩
 refine zg ?_
 refine y1 rfl ⟨hl.keep,congrArg Value.bool (by first|(simp[h5];done)|(simp at *;simp[*];done)|(simp at *;omega))⟩
noncomputable def c113:Code:=Tryz.f113.body.getD .skip
theorem spec113(a b c:Int):CC Tryz.prog KK 113 [.int .i64 a,.int .i64 b,.int .i64 c] S (fun v S'=>Keep S S'∧v= .bool (decide (b≤a)&&decide (a≤c))):=by
 refine cc_enter (c:=c113) (n:=15) Tryz.func113 rfl rfl rfl (by kernel_rfl) rfl rfl ?_
 have hl:=Hold.start S
 refine zg ?_;refine re_bool (d:=10) rfl (fun h10=>?_) (fun h10=>?_)
 ·
  refine zg ?_
  refine y1 rfl ⟨hl.keep,congrArg Value.bool (by first|(simp[h10];done)|(simp at *;simp[*];done)|(simp at *;omega))⟩
 refine zg ?_
 refine y1 rfl ⟨hl.keep,congrArg Value.bool (by first|(simp[h10];done)|(simp at *;simp[*];done)|(simp at *;omega))⟩
theorem mem_nthS{α:Type}{s:α}:∀{C:List α},s∈C→∃j,nth C j=some s
 | [],h=>(List.not_mem_nil h).elim
 |x::C,h=>by
  rcases List.mem_cons.1 h with rfl|h
  ·exact⟨0,rfl⟩
  obtain⟨j,hj⟩:=mem_nthS h
  exact⟨j+1,hj⟩
def bigB(nm:List UInt8)(n:Nat)(most:Int):Bool:=(decide ((nm.length:Int)>100)||(decide ((n:Int)>most)&&decide ((n:Int)≤400)))||decide ((n:Int)>420)
def smallF(nm:List UInt8)(L:List Spt)(most:Int):Bool:=!bigB nm L.length most&&L.all fun x=>!decide ((x.signs.length:Int)>6)
theorem small_le{nm:List UInt8}{L:List Spt}{most:Int}(h:smallF nm L most=true):L.length≤420∧∀x,x∈L→x.signs.length≤6:=by
 unfold smallF at h
 simp only[Bool.and_eq_true]at h
 obtain⟨h1,h2⟩:=h
 refine⟨?_,fun x hx=>?_⟩
 ·unfold bigB at h1
  simp at h1
  omega
 have:=List.all_eq_true.1 h2 x hx
 simp at this
 omega
theorem small_all{L:List Spt}(h:∀j x,nth L j=some x→decide ((x.signs.length:Int)>6)=false):(L.all fun x=>!decide ((x.signs.length:Int)>6))=true:=by
 rw[List.all_eq_true]
 intro x hx
 obtain⟨j,hj⟩:=mem_nthS hx
 rw[h j x hj]
 rfl
theorem big_le{nm:List UInt8}{n:Nat}{most:Int}(h:bigB nm n most=false):n≤420:=by
 unfold bigB at h
 simp at h
 omega
noncomputable def c26:Code:=Tryz.f26.body.getD .skip
theorem spec26(nm:ByteArray)(a:Option Addr)(cap:Nat)(L:List Spt)(most:Int)(hv:Spots S (.slice a L.length cap) L):CC Tryz.prog KK 26 [aggL [.string nm,.slice a L.length cap],.int .i64 most] S (fun v S'=>Keep S S'∧v= .bool (smallF nm.data.toList L most)):=by
 refine cc_enter (c:=c26) (n:=44) Tryz.func26 rfl rfl rfl (by kernel_rfl) rfl rfl ?_
 have hl:=Hold.start S
 refine zg ?_;refine re_boxL hl rfl rfl rfl rfl rfl rfl ?_;intro B2 S2 hl;refine zA ?_;refine xp_seq rfl ?_;refine xp_seq rfl (xe_toL hl [(28,.bool (bigB nm.data.toList L.length most)),(2,ptrTo B2 0)] ?_ ?_)
 ·
  refine xg (by kernel_rfl) ?_;refine rr rfl (rd_fieldAddr rfl rfl (fa Tryz.underlying24 az24 rfl)) ?_;refine rr rfl (rl hl 0 rfl rfl (by kernel_rfl) rfl rfl) ?_;refine rr rfl (rd_len rfl rfl (len_string Tryz.underlying9)) ?_;refine rr rfl (rd_bin rfl rfl rfl rfl) ?_;refine rm rfl ?_;refine re_bool (d:=10) rfl (fun h10=>?_) (fun h10=>?_)
  ·
   refine zg ?_
   exact⟨rfl,⟨bl (by unfold bigB;simp only[h10,BLs]),rfl,trivial⟩,hl⟩
  refine zg ?_;refine re_bool (d:=16) rfl (fun h16=>?_) (fun h16=>?_)
  ·
   refine zg ?_;refine re_bool (d:=23) rfl (fun h23=>?_) (fun h23=>?_)
   ·
    refine zg ?_
    exact⟨rfl,⟨bl (by unfold bigB;simp only[h23,h16,h10,BLs]),rfl,trivial⟩,hl⟩
   refine zg ?_
   exact⟨rfl,⟨bl (by unfold bigB;simp only[h23,h16,h10,BLs]),rfl,trivial⟩,hl⟩
  refine zg ?_
  exact⟨rfl,⟨bl (by unfold bigB;simp only[h16,h10,BLs]),rfl,trivial⟩,hl⟩
 intro S1 hl
 refine zg ?_
 constructor<;>intro h28
 ·
  refine zg ?_
  exact(z1 rfl ⟨hl.keep,congrArg Value.bool (by unfold smallF;rw[h28];rfl)⟩)
 refine xp_skip rfl ?_;refine xp_seq rfl ?_;refine zS ?_;refine xp_block rfl ?_
 -- LOOP
 have hle:=big_le h28
 refine xe_sub (L':=[(5,.int .i64 0),(2,ptrTo B2 0)]) ⟨rfl,rfl,trivial⟩ ?_
 refine xp_loop rfl (fun m Le S'=>∃i:Nat,i≤L.length∧m=L.length-i∧SubE [(5,.int .i64 (i:Int)),(2,ptrTo B2 0)] Le∧(∀j,j<i→∀x,nth L j=some x→decide ((x.signs.length:Int)>6)=false)∧Hold S [S] S' [(B2,.cells [.string nm,.slice a L.length cap] 24 false true [])]) ?_ (m:=L.length) ⟨0,by omega,rfl,⟨rfl,rfl,trivial⟩,fun j hj=>by omega,hl⟩
 clear hl;rintro m Le S' ⟨i,hi,rfl,hsub,hok,hl⟩;refine xe_sub hsub ?_
 refine zg ?_
 constructor<;>intro h33
 ·
  have hlt:i<L.length:=by have:=of_decide_eq_true h33;omega
  obtain⟨x,hx⟩:=nth_some hlt
  obtain⟨bx,ox,csx,ax,capx,hax,hrowx,htkx,hsgx⟩:=hv.elem hx
  refine zg ?_
  constructor<;>intro h43
  ·
   refine zg ?_
   refine blk_ret (thn_ret (round_ret (blk_ret ((z1 rfl ⟨hl.keep,congrArg Value.bool (by unfold smallF;rw[List.all_eq_false.2 ⟨x,nth_mem hx,by rw[h43];simp⟩,Bool.and_false])⟩)))))
  refine xp_skip rfl ?_;refine xg (by kernel_rfl) ?_;refine rm rfl ?_;refine rr rfl (rd_bin rfl rfl rfl rfl) ?_;refine rm rfl ?_;refine re_end rfl ?_
  refine⟨L.length-(i+1),by omega,i+1,by omega,rfl,⟨congrArg some (congrArg (Value.int .i64) (IntWalk.i64_in _ (by omega))),rfl,trivial⟩,fun j hj y hy=>?_,hl⟩
  rcases Nat.lt_succ_iff_lt_or_eq.1 hj with hj|rfl
  ·exact hok j hj y hy
  rw[hx]at hy;cases hy;exact h43
 refine zg ?_
 refine y1 rfl ⟨hl.keep,congrArg Value.bool (by unfold smallF;rw[h28,small_all fun j x hj=>hok j (by have:=nth_lt hj;have:=of_decide_eq_false h33;omega) x hj];rfl)⟩
end Go.Proofs.YtmfphenhpkgidaaGreatDoor
namespace Go.Proofs.YtmfphenhpkgidaaGreatDoor
open Go.Cm Go
set_option maxRecDepth 100000
variable{S:St}
theorem kind_cases{k:Int}(h1:1≤k)(h2:k≤12):k=1∨k=2∨k=3∨k=4∨k=5∨k=6∨k=7∨k=8∨k=9∨k=10∨k=11∨k=12:=by omega
theorem ub7{k:Int}(h1:1≤k)(h2:k≤12):ub k 7=(k==5):=by
 rcases kind_cases h1 h2 with rfl|rfl|rfl|rfl|rfl|rfl|rfl|rfl|rfl|rfl|rfl|rfl<;>rfl
theorem kept_k{s:Sg}{k:Int}(h:s.kind=k):keptS s (ub s.kind 0) (ub s.kind 1) (ub s.kind 2) (ub s.kind 3) (ub s.kind 4) (ub s.kind 5) (ub s.kind 6) (ub s.kind 7) (ub s.kind 8) (ub s.kind 9) (ub s.kind 10) (ub s.kind 11)=keptS s (ub k 0) (ub k 1) (ub k 2) (ub k 3) (ub k 4) (ub k 5) (ub k 6) (ub k 7) (ub k 8) (ub k 9) (ub k 10) (ub k 11):=by rw[h]
theorem rng_1{s:Sg}(h:s.kind=1):rangedF s (ub s.kind 0) (ub s.kind 1) (ub s.kind 2) (ub s.kind 4) (ub s.kind 10) (ub s.kind 11)=rangedF s true true true false false false:=by rw[h];rfl
theorem rng_2{s:Sg}(h:s.kind=2):rangedF s (ub s.kind 0) (ub s.kind 1) (ub s.kind 2) (ub s.kind 4) (ub s.kind 10) (ub s.kind 11)=rangedF s true false false false false false:=by rw[h];rfl
theorem rng_3{s:Sg}(h:s.kind=3):rangedF s (ub s.kind 0) (ub s.kind 1) (ub s.kind 2) (ub s.kind 4) (ub s.kind 10) (ub s.kind 11)=rangedF s false false false false false false:=by rw[h];rfl
theorem rng_4{s:Sg}(h:s.kind=4):rangedF s (ub s.kind 0) (ub s.kind 1) (ub s.kind 2) (ub s.kind 4) (ub s.kind 10) (ub s.kind 11)=rangedF s false true true true false false:=by rw[h];rfl
theorem rng_5{s:Sg}(h:s.kind=5):rangedF s (ub s.kind 0) (ub s.kind 1) (ub s.kind 2) (ub s.kind 4) (ub s.kind 10) (ub s.kind 11)=rangedF s false false false false false false:=by rw[h];rfl
theorem rng_6{s:Sg}(h:s.kind=6):rangedF s (ub s.kind 0) (ub s.kind 1) (ub s.kind 2) (ub s.kind 4) (ub s.kind 10) (ub s.kind 11)=rangedF s false false false false true false:=by rw[h];rfl
theorem rng_7{s:Sg}(h:s.kind=7):rangedF s (ub s.kind 0) (ub s.kind 1) (ub s.kind 2) (ub s.kind 4) (ub s.kind 10) (ub s.kind 11)=rangedF s false false false false false true:=by rw[h];rfl
theorem rng_8{s:Sg}(h:s.kind=8):rangedF s (ub s.kind 0) (ub s.kind 1) (ub s.kind 2) (ub s.kind 4) (ub s.kind 10) (ub s.kind 11)=rangedF s false false false false false false:=by rw[h];rfl
theorem rng_9{s:Sg}(h:s.kind=9):rangedF s (ub s.kind 0) (ub s.kind 1) (ub s.kind 2) (ub s.kind 4) (ub s.kind 10) (ub s.kind 11)=rangedF s false false false false false false:=by rw[h];rfl
theorem rng_10{s:Sg}(h:s.kind=10):rangedF s (ub s.kind 0) (ub s.kind 1) (ub s.kind 2) (ub s.kind 4) (ub s.kind 10) (ub s.kind 11)=rangedF s false false false false false false:=by rw[h];rfl
theorem rng_11{s:Sg}(h:s.kind=11):rangedF s (ub s.kind 0) (ub s.kind 1) (ub s.kind 2) (ub s.kind 4) (ub s.kind 10) (ub s.kind 11)=rangedF s false false false false false false:=by rw[h];rfl
theorem rng_12{s:Sg}(h:s.kind=12):rangedF s (ub s.kind 0) (ub s.kind 1) (ub s.kind 2) (ub s.kind 4) (ub s.kind 10) (ub s.kind 11)=rangedF s false false false false false false:=by rw[h];rfl
noncomputable def c90:Code:=Tryz.f90.body.getD .skip
theorem spec90(a b c d:Int):CC Tryz.prog KK 90 [aggL [.int .i64 a,.int .i64 b,.int .i64 c,.int .i64 d]] S (fun v S'=>Keep S S'∧v= .int .i64 (mensE a b c d)):=by
 refine cc_enter (c:=c90) (n:=32) Tryz.func90 rfl rfl rfl (by kernel_rfl) rfl rfl ?_
 have hl:=Hold.start S
 refine zg ?_;refine re_boxL hl rfl rfl rfl rfl rfl rfl ?_;intro B1 S1 hl;refine zg ?_;refine re_buildSliceR hl rfl rfl rfl rfl rfl Tryz.underlying38 rfl (c:=[Value.int .i64 a,.int .i64 b,.int .i64 c,.int .i64 d]) (by kernel_rfl) ?_;intro B13 S1 hr13 hl;refine zA ?_;refine xp_seq rfl ?_;refine zS ?_;refine xp_block rfl ?_
 -- LOOP
 refine xe_sub (L':=[(4,.int .i64 0),(3,.slice (some ⟨B13,0,none⟩) 4 4)]) ⟨rfl,rfl,trivial⟩ ?_
 refine xp_loop rfl (fun m Le S'=>∃i:Nat,i≤4∧m=4-i∧SubE [(4,.int .i64 (i:Int)),(3,.slice (some ⟨B13,0,none⟩) 4 4)] Le∧(∀j,j<i→okm (at4 a b c d j)=true)∧RowAt S' B13 3 [Value.int .i64 a,.int .i64 b,.int .i64 c,.int .i64 d]∧Keep S S') ?_ (m:=4) ⟨0,by omega,rfl,⟨rfl,rfl,trivial⟩,fun j hj=>by omega,hr13,hl.keep⟩
 clear hr13 hl;rintro m Le S' ⟨i,hi,rfl,hsub,hok,hr,hk⟩;refine xe_sub hsub ?_
 refine zg ?_
 constructor<;>intro h17
 ·
  have hlt:i<4:=by have:=of_decide_eq_true h17;omega
  refine xp_skip rfl ?_;refine xp_seq rfl ?_;refine xp_block rfl ?_;refine xp_seq rfl (xe_to [(31,.bool (at4 a b c d i !=2&&at4 a b c d i !=3)),(4,.int .i64 (i:Int)),(3,.slice (some ⟨B13,0,none⟩) 4 4)] (fun S2=>S2=S') ?_ ?_)
  ·
   refine xg (by kernel_rfl) ?_;iterate 2 refine rm rfl ?_
   refine rr rfl (rd_indexAddr rfl rfl rfl (indexAddr_slice (z:=1) Tryz.underlying38 (by kernel_rfl) ⟨by omega,by omega⟩)) ?_;refine rr rfl (rd_load rfl rfl (load1_row (by kernel_rfl) hr (by rw[Nat.zero_add];exact at4_nth (a:=a) (b:=b) (c:=c) (d:=d) (i:=i) hlt))) ?_;refine rr rfl (rd_bin rfl rfl rfl rfl) ?_;refine rm rfl ?_;refine re_bool (d:=25) rfl (fun h25=>?_) (fun h25=>?_)
   ·
    iterate 2 refine rm rfl ?_
    refine rr rfl (rd_indexAddr rfl rfl rfl (indexAddr_slice (z:=1) Tryz.underlying38 (by kernel_rfl) ⟨by omega,by omega⟩)) ?_;refine rr rfl (rd_load rfl rfl (load1_row (by kernel_rfl) hr (by rw[Nat.zero_add];exact at4_nth (a:=a) (b:=b) (c:=c) (d:=d) (i:=i) hlt))) ?_;refine rr rfl (rd_bin rfl rfl rfl rfl) ?_;refine rm rfl ?_;refine re_end rfl ?_
    exact⟨rfl,⟨bl (by first|(simp[h25];done)|(simp only[h25,BLs])),rfl,rfl,trivial⟩,rfl⟩
   refine zg ?_
   exact⟨rfl,⟨bl (by first|(simp[h25];done)|(simp only[h25,BLs])),rfl,rfl,trivial⟩,rfl⟩
  rintro _ rfl
  refine zg ?_
  constructor<;>intro h31
  ·
   refine zg ?_
   refine blk_ret (thn_ret (round_ret (blk_ret ((z1 rfl ⟨hk,congrArg (Value.int .i64) (mensE_no (i:=i) (by revert h31;unfold okm;simp only[bne];cases (at4 a b c d i==2)<;>cases (at4 a b c d i==3)<;>decide)).symm⟩)))))
  refine xp_skip rfl ?_;refine xg (by kernel_rfl) ?_;refine rm rfl ?_;refine rr rfl (rd_bin rfl rfl rfl rfl) ?_;refine rm rfl ?_;refine re_end rfl ?_
  refine⟨4-(i+1),by omega,i+1,by omega,rfl,⟨congrArg some (congrArg (Value.int .i64) (IntWalk.i64_in _ (by omega))),rfl,trivial⟩,fun j hj=>?_,hr,hk⟩
  rcases Nat.lt_succ_iff_lt_or_eq.1 hj with hj|rfl
  ·exact hok j hj
  revert h31;unfold okm;simp only[bne];cases (at4 a b c d j==2)<;>cases (at4 a b c d j==3)<;>decide
 refine zg ?_
 refine y1 rfl ⟨hk,congrArg (Value.int .i64) (mensE_yes fun j hj=>hok j (by have:=of_decide_eq_false h17;omega)).symm⟩
noncomputable def c89:Code:=Tryz.f89.body.getD .skip
theorem spec89(s:Sg)(k1:1≤s.kind)(k2:s.kind≤12):CC Tryz.prog KK 89 [s.v] S (fun v S'=>Keep S S'∧v=(keptS s (ub s.kind 0) (ub s.kind 1) (ub s.kind 2) (ub s.kind 3) (ub s.kind 4) (ub s.kind 5) (ub s.kind 6) (ub s.kind 7) (ub s.kind 8) (ub s.kind 9) (ub s.kind 10) (ub s.kind 11)).v):=by
 refine cc_enter (c:=c89) (n:=76) Tryz.func89 rfl rfl rfl (by kernel_rfl) rfl rfl ?_
 have hl:=Hold.start S
 refine zg ?_;refine re_boxL hl rfl rfl rfl rfl rfl rfl ?_;intro B1 S1 hl;refine re_allocL hl rfl rfl rfl rfl rfl (z:=[.int .i64 0,.int .i64 0,.int .i64 0,.int .i64 0,.bool false,.int .i64 0,.bool false,.bool false,.int .i64 0,.int .i64 0,.int .i64 0,.int .i64 0,.bool false,.int .i64 0,.int .i64 0,.int .i64 0,.int .i64 0]) (by kernel_rfl) ?_;intro B2 S2 hl;refine zg ?_
 refine rr rfl (rd_build rfl rfl (v:=aggL [.int .i64 s.kind,.int .i64 0,.int .i64 0,.int .i64 0,.bool false,.int .i64 0,.bool false,.bool false,.int .i64 0,.int .i64 0,.int .i64 0,.int .i64 0,.bool false,.int .i64 0,.int .i64 0,.int .i64 0,.int .i64 0]) (by rfl)) ?_;refine re_allocL hl rfl rfl rfl rfl rfl (z:=[.int .i64 0,.int .i64 0,.int .i64 0,.int .i64 0,.bool false,.int .i64 0,.bool false,.bool false,.int .i64 0,.int .i64 0,.int .i64 0,.int .i64 0,.bool false,.int .i64 0,.int .i64 0,.int .i64 0,.int .i64 0]) (by kernel_rfl) ?_;intro B3 S3 hl
 refine re_storeL hl 0 rfl rfl rfl rfl rfl rfl rfl (by kernel_rfl) rfl ?_;intro S1 hl;refine zg ?_
 constructor<;>intro h9
 ·
  refine xp_draw (idx:=[0,1,2,3,4,5,6,7,8,9,10,11,12,13,14,15]) rfl (by kernel_rfl) (by kernel_rfl) ?_;refine zg ?_
  refine rp_storeL hl 0 rfl rfl rfl rfl rfl rfl rfl (by kernel_rfl) rfl ?_;intro S1 hl;refine⟨stays_of ((by repeat (first|exact trivial|refine⟨(by first|exact stays_load (X:=True) rfl rfl (load1_of (by kernel_rfl) (hl.get 2 rfl) rfl) (same_atom (atom_int _ _)) rfl trivial|exact stays_load (X:=True) rfl rfl (load1_of (by kernel_rfl) (hl.get 2 rfl) rfl) (same_atom (atom_bool _)) rfl trivial|exact stays_load (X:=True) rfl rfl (loadN_of (z:=4) (by kernel_rfl) (by kernel_rfl) (hl.get 2 rfl) rfl) (same_agg rfl (atoms_cons (atom_int _ _) (atoms_cons (atom_int _ _) (atoms_cons (atom_int _ _) (atoms_cons (atom_int _ _) atoms_nil))))) rfl trivial),?_⟩))),?_⟩
  refine zg ?_
  refine rp_storeL hl 0 rfl rfl rfl rfl rfl rfl rfl (by kernel_rfl) rfl ?_;intro S1 hl;refine⟨stays_of (allE_left ((by repeat (first|exact trivial|refine⟨(by first|exact stays_load (X:=True) rfl rfl (load1_of (by kernel_rfl) (hl.get 2 rfl) rfl) (same_atom (atom_int _ _)) rfl trivial|exact stays_load (X:=True) rfl rfl (load1_of (by kernel_rfl) (hl.get 2 rfl) rfl) (same_atom (atom_bool _)) rfl trivial|exact stays_load (X:=True) rfl rfl (loadN_of (z:=4) (by kernel_rfl) (by kernel_rfl) (hl.get 2 rfl) rfl) (same_agg rfl (atoms_cons (atom_int _ _) (atoms_cons (atom_int _ _) (atoms_cons (atom_int _ _) (atoms_cons (atom_int _ _) atoms_nil))))) rfl trivial),?_⟩)))),?_⟩
  refine zg ?_
  refine rp_storeL hl 0 rfl rfl rfl rfl rfl rfl rfl (by kernel_rfl) rfl ?_;intro S1 hl;refine⟨stays_of (allE_left (allE_left ((by repeat (first|exact trivial|refine⟨(by first|exact stays_load (X:=True) rfl rfl (load1_of (by kernel_rfl) (hl.get 2 rfl) rfl) (same_atom (atom_int _ _)) rfl trivial|exact stays_load (X:=True) rfl rfl (load1_of (by kernel_rfl) (hl.get 2 rfl) rfl) (same_atom (atom_bool _)) rfl trivial|exact stays_load (X:=True) rfl rfl (loadN_of (z:=4) (by kernel_rfl) (by kernel_rfl) (hl.get 2 rfl) rfl) (same_agg rfl (atoms_cons (atom_int _ _) (atoms_cons (atom_int _ _) (atoms_cons (atom_int _ _) (atoms_cons (atom_int _ _) atoms_nil))))) rfl trivial),?_⟩))))),?_⟩
  refine zg ?_
  refine rp_storeL hl 0 rfl rfl rfl rfl rfl rfl rfl (by kernel_rfl) rfl ?_;intro S1 hl;refine⟨stays_of (allE_left (allE_left (allE_left ((by repeat (first|exact trivial|refine⟨(by first|exact stays_load (X:=True) rfl rfl (load1_of (by kernel_rfl) (hl.get 2 rfl) rfl) (same_atom (atom_int _ _)) rfl trivial|exact stays_load (X:=True) rfl rfl (load1_of (by kernel_rfl) (hl.get 2 rfl) rfl) (same_atom (atom_bool _)) rfl trivial|exact stays_load (X:=True) rfl rfl (loadN_of (z:=4) (by kernel_rfl) (by kernel_rfl) (hl.get 2 rfl) rfl) (same_agg rfl (atoms_cons (atom_int _ _) (atoms_cons (atom_int _ _) (atoms_cons (atom_int _ _) (atoms_cons (atom_int _ _) atoms_nil))))) rfl trivial),?_⟩)))))),?_⟩
  refine zg ?_;refine re_storeL hl 1 rfl rfl rfl rfl rfl rfl rfl (by kernel_rfl) rfl ?_;intro S1 hl;refine zg ?_
  refine done_ret (ress_cell rfl (loadN_of (z:=17) (by kernel_rfl) (by kernel_rfl) (hl.get 1 rfl) rfl) rfl) ⟨hl.keep,by rcases kind_cases k1 k2 with hk|hk|hk|hk|hk|hk|hk|hk|hk|hk|hk|hk<;>first|(rw[kept_k hk];rfl)|(exfalso;simp[hk]at h9)⟩
 refine zg ?_
 constructor<;>intro h23
 ·
  refine zg ?_;refine re_storeL hl 0 rfl rfl rfl rfl rfl rfl rfl (by kernel_rfl) rfl ?_;intro S1 hl;refine zg ?_;refine re_storeL hl 1 rfl rfl rfl rfl rfl rfl rfl (by kernel_rfl) rfl ?_;intro S1 hl;refine zg ?_
  refine done_ret (ress_cell rfl (loadN_of (z:=17) (by kernel_rfl) (by kernel_rfl) (hl.get 1 rfl) rfl) rfl) ⟨hl.keep,by rcases kind_cases k1 k2 with hk|hk|hk|hk|hk|hk|hk|hk|hk|hk|hk|hk<;>first|(rw[kept_k hk];rfl)|(exfalso;simp[hk]at h23 h9)⟩
 refine zg ?_
 constructor<;>intro h28
 ·
  refine xp_draw (idx:=[0,1,2,3,4,5,6,7,8,9,10,11,12,13,14,15,16,17,18,19,20,21,22,23]) rfl (by kernel_rfl) (by kernel_rfl) ?_;refine zg ?_
  refine rp_storeL hl 0 rfl rfl rfl rfl rfl rfl rfl (by kernel_rfl) rfl ?_;intro S1 hl;refine⟨stays_of ((by repeat (first|exact trivial|refine⟨(by first|exact stays_load (X:=True) rfl rfl (load1_of (by kernel_rfl) (hl.get 2 rfl) rfl) (same_atom (atom_int _ _)) rfl trivial|exact stays_load (X:=True) rfl rfl (load1_of (by kernel_rfl) (hl.get 2 rfl) rfl) (same_atom (atom_bool _)) rfl trivial|exact stays_load (X:=True) rfl rfl (loadN_of (z:=4) (by kernel_rfl) (by kernel_rfl) (hl.get 2 rfl) rfl) (same_agg rfl (atoms_cons (atom_int _ _) (atoms_cons (atom_int _ _) (atoms_cons (atom_int _ _) (atoms_cons (atom_int _ _) atoms_nil))))) rfl trivial),?_⟩))),?_⟩
  refine zg ?_
  refine rp_storeL hl 0 rfl rfl rfl rfl rfl rfl rfl (by kernel_rfl) rfl ?_;intro S1 hl;refine⟨stays_of (allE_left ((by repeat (first|exact trivial|refine⟨(by first|exact stays_load (X:=True) rfl rfl (load1_of (by kernel_rfl) (hl.get 2 rfl) rfl) (same_atom (atom_int _ _)) rfl trivial|exact stays_load (X:=True) rfl rfl (load1_of (by kernel_rfl) (hl.get 2 rfl) rfl) (same_atom (atom_bool _)) rfl trivial|exact stays_load (X:=True) rfl rfl (loadN_of (z:=4) (by kernel_rfl) (by kernel_rfl) (hl.get 2 rfl) rfl) (same_agg rfl (atoms_cons (atom_int _ _) (atoms_cons (atom_int _ _) (atoms_cons (atom_int _ _) (atoms_cons (atom_int _ _) atoms_nil))))) rfl trivial),?_⟩)))),?_⟩
  refine zg ?_
  refine rp_storeL hl 0 rfl rfl rfl rfl rfl rfl rfl (by kernel_rfl) rfl ?_;intro S1 hl;refine⟨stays_of (allE_left (allE_left ((by repeat (first|exact trivial|refine⟨(by first|exact stays_load (X:=True) rfl rfl (load1_of (by kernel_rfl) (hl.get 2 rfl) rfl) (same_atom (atom_int _ _)) rfl trivial|exact stays_load (X:=True) rfl rfl (load1_of (by kernel_rfl) (hl.get 2 rfl) rfl) (same_atom (atom_bool _)) rfl trivial|exact stays_load (X:=True) rfl rfl (loadN_of (z:=4) (by kernel_rfl) (by kernel_rfl) (hl.get 2 rfl) rfl) (same_agg rfl (atoms_cons (atom_int _ _) (atoms_cons (atom_int _ _) (atoms_cons (atom_int _ _) (atoms_cons (atom_int _ _) atoms_nil))))) rfl trivial),?_⟩))))),?_⟩
  refine zg ?_
  refine rp_storeL hl 0 rfl rfl rfl rfl rfl rfl rfl (by kernel_rfl) rfl ?_;intro S1 hl;refine⟨stays_of (allE_left (allE_left (allE_left ((by repeat (first|exact trivial|refine⟨(by first|exact stays_load (X:=True) rfl rfl (load1_of (by kernel_rfl) (hl.get 2 rfl) rfl) (same_atom (atom_int _ _)) rfl trivial|exact stays_load (X:=True) rfl rfl (load1_of (by kernel_rfl) (hl.get 2 rfl) rfl) (same_atom (atom_bool _)) rfl trivial|exact stays_load (X:=True) rfl rfl (loadN_of (z:=4) (by kernel_rfl) (by kernel_rfl) (hl.get 2 rfl) rfl) (same_agg rfl (atoms_cons (atom_int _ _) (atoms_cons (atom_int _ _) (atoms_cons (atom_int _ _) (atoms_cons (atom_int _ _) atoms_nil))))) rfl trivial),?_⟩)))))),?_⟩
  refine zg ?_
  refine rp_storeL hl 0 rfl rfl rfl rfl rfl rfl rfl (by kernel_rfl) rfl ?_;intro S1 hl;refine⟨stays_of (allE_left (allE_left (allE_left (allE_left ((by repeat (first|exact trivial|refine⟨(by first|exact stays_load (X:=True) rfl rfl (load1_of (by kernel_rfl) (hl.get 2 rfl) rfl) (same_atom (atom_int _ _)) rfl trivial|exact stays_load (X:=True) rfl rfl (load1_of (by kernel_rfl) (hl.get 2 rfl) rfl) (same_atom (atom_bool _)) rfl trivial|exact stays_load (X:=True) rfl rfl (loadN_of (z:=4) (by kernel_rfl) (by kernel_rfl) (hl.get 2 rfl) rfl) (same_agg rfl (atoms_cons (atom_int _ _) (atoms_cons (atom_int _ _) (atoms_cons (atom_int _ _) (atoms_cons (atom_int _ _) atoms_nil))))) rfl trivial),?_⟩))))))),?_⟩
  refine zg ?_
  refine rp_storeL hl 0 rfl rfl rfl rfl rfl rfl rfl (by kernel_rfl) rfl ?_;intro S1 hl;refine⟨stays_of (allE_left (allE_left (allE_left (allE_left (allE_left ((by repeat (first|exact trivial|refine⟨(by first|exact stays_load (X:=True) rfl rfl (load1_of (by kernel_rfl) (hl.get 2 rfl) rfl) (same_atom (atom_int _ _)) rfl trivial|exact stays_load (X:=True) rfl rfl (load1_of (by kernel_rfl) (hl.get 2 rfl) rfl) (same_atom (atom_bool _)) rfl trivial|exact stays_load (X:=True) rfl rfl (loadN_of (z:=4) (by kernel_rfl) (by kernel_rfl) (hl.get 2 rfl) rfl) (same_agg rfl (atoms_cons (atom_int _ _) (atoms_cons (atom_int _ _) (atoms_cons (atom_int _ _) (atoms_cons (atom_int _ _) atoms_nil))))) rfl trivial),?_⟩)))))))),?_⟩
  refine zg ?_;refine re_storeL hl 1 rfl rfl rfl rfl rfl rfl rfl (by kernel_rfl) rfl ?_;intro S1 hl;refine zg ?_
  refine done_ret (ress_cell rfl (loadN_of (z:=17) (by kernel_rfl) (by kernel_rfl) (hl.get 1 rfl) rfl) rfl) ⟨hl.keep,by rcases kind_cases k1 k2 with hk|hk|hk|hk|hk|hk|hk|hk|hk|hk|hk|hk<;>first|(rw[kept_k hk];rfl)|(exfalso;simp[hk]at h28 h23 h9)⟩
 refine zg ?_
 constructor<;>intro h48
 ·
  refine xp_draw (idx:=[0,1,2,3,4,5,6,7]) rfl (by kernel_rfl) (by kernel_rfl) ?_;refine zg ?_
  refine rp_storeL hl 0 rfl rfl rfl rfl rfl rfl rfl (by kernel_rfl) rfl ?_;intro S1 hl;refine⟨stays_of ((by repeat (first|exact trivial|refine⟨(by first|exact stays_load (X:=True) rfl rfl (load1_of (by kernel_rfl) (hl.get 2 rfl) rfl) (same_atom (atom_int _ _)) rfl trivial|exact stays_load (X:=True) rfl rfl (load1_of (by kernel_rfl) (hl.get 2 rfl) rfl) (same_atom (atom_bool _)) rfl trivial|exact stays_load (X:=True) rfl rfl (loadN_of (z:=4) (by kernel_rfl) (by kernel_rfl) (hl.get 2 rfl) rfl) (same_agg rfl (atoms_cons (atom_int _ _) (atoms_cons (atom_int _ _) (atoms_cons (atom_int _ _) (atoms_cons (atom_int _ _) atoms_nil))))) rfl trivial),?_⟩))),?_⟩
  refine zg ?_
  refine rp_storeL hl 0 rfl rfl rfl rfl rfl rfl rfl (by kernel_rfl) rfl ?_;intro S1 hl;refine⟨stays_of (allE_left ((by repeat (first|exact trivial|refine⟨(by first|exact stays_load (X:=True) rfl rfl (load1_of (by kernel_rfl) (hl.get 2 rfl) rfl) (same_atom (atom_int _ _)) rfl trivial|exact stays_load (X:=True) rfl rfl (load1_of (by kernel_rfl) (hl.get 2 rfl) rfl) (same_atom (atom_bool _)) rfl trivial|exact stays_load (X:=True) rfl rfl (loadN_of (z:=4) (by kernel_rfl) (by kernel_rfl) (hl.get 2 rfl) rfl) (same_agg rfl (atoms_cons (atom_int _ _) (atoms_cons (atom_int _ _) (atoms_cons (atom_int _ _) (atoms_cons (atom_int _ _) atoms_nil))))) rfl trivial),?_⟩)))),?_⟩
  refine zg ?_;refine re_storeL hl 1 rfl rfl rfl rfl rfl rfl rfl (by kernel_rfl) rfl ?_;intro S1 hl;refine zg ?_
  refine done_ret (ress_cell rfl (loadN_of (z:=17) (by kernel_rfl) (by kernel_rfl) (hl.get 1 rfl) rfl) rfl) ⟨hl.keep,by rcases kind_cases k1 k2 with hk|hk|hk|hk|hk|hk|hk|hk|hk|hk|hk|hk<;>first|(rw[kept_k hk];rfl)|(exfalso;simp[hk]at h48 h28 h23 h9)⟩
 refine zg ?_
 constructor<;>intro h56
 ·
  refine xp_draw (idx:=[0,1,2,3,4,5,6,7]) rfl (by kernel_rfl) (by kernel_rfl) ?_;refine zg ?_
  refine rp_storeL hl 0 rfl rfl rfl rfl rfl rfl rfl (by kernel_rfl) rfl ?_;intro S1 hl;refine⟨stays_of ((by repeat (first|exact trivial|refine⟨(by first|exact stays_load (X:=True) rfl rfl (load1_of (by kernel_rfl) (hl.get 2 rfl) rfl) (same_atom (atom_int _ _)) rfl trivial|exact stays_load (X:=True) rfl rfl (load1_of (by kernel_rfl) (hl.get 2 rfl) rfl) (same_atom (atom_bool _)) rfl trivial|exact stays_load (X:=True) rfl rfl (loadN_of (z:=4) (by kernel_rfl) (by kernel_rfl) (hl.get 2 rfl) rfl) (same_agg rfl (atoms_cons (atom_int _ _) (atoms_cons (atom_int _ _) (atoms_cons (atom_int _ _) (atoms_cons (atom_int _ _) atoms_nil))))) rfl trivial),?_⟩))),?_⟩
  refine zg ?_
  refine rp_storeL hl 0 rfl rfl rfl rfl rfl rfl rfl (by kernel_rfl) rfl ?_;intro S1 hl;refine⟨stays_of (allE_left ((by repeat (first|exact trivial|refine⟨(by first|exact stays_load (X:=True) rfl rfl (load1_of (by kernel_rfl) (hl.get 2 rfl) rfl) (same_atom (atom_int _ _)) rfl trivial|exact stays_load (X:=True) rfl rfl (load1_of (by kernel_rfl) (hl.get 2 rfl) rfl) (same_atom (atom_bool _)) rfl trivial|exact stays_load (X:=True) rfl rfl (loadN_of (z:=4) (by kernel_rfl) (by kernel_rfl) (hl.get 2 rfl) rfl) (same_agg rfl (atoms_cons (atom_int _ _) (atoms_cons (atom_int _ _) (atoms_cons (atom_int _ _) (atoms_cons (atom_int _ _) atoms_nil))))) rfl trivial),?_⟩)))),?_⟩
  refine zg ?_;refine re_storeL hl 1 rfl rfl rfl rfl rfl rfl rfl (by kernel_rfl) rfl ?_;intro S1 hl;refine zg ?_
  refine done_ret (ress_cell rfl (loadN_of (z:=17) (by kernel_rfl) (by kernel_rfl) (hl.get 1 rfl) rfl) rfl) ⟨hl.keep,by rcases kind_cases k1 k2 with hk|hk|hk|hk|hk|hk|hk|hk|hk|hk|hk|hk<;>first|(rw[kept_k hk];rfl)|(exfalso;simp[hk]at h56 h48 h28 h23 h9)⟩
 refine zg ?_
 constructor<;>intro h64
 ·
  refine zg ?_;refine re_storeL hl 0 rfl rfl rfl rfl rfl rfl rfl (by kernel_rfl) rfl ?_;intro S1 hl;refine zg ?_;refine re_storeL hl 1 rfl rfl rfl rfl rfl rfl rfl (by kernel_rfl) rfl ?_;intro S1 hl;refine zg ?_
  refine done_ret (ress_cell rfl (loadN_of (z:=17) (by kernel_rfl) (by kernel_rfl) (hl.get 1 rfl) rfl) rfl) ⟨hl.keep,by rcases kind_cases k1 k2 with hk|hk|hk|hk|hk|hk|hk|hk|hk|hk|hk|hk<;>first|(rw[kept_k hk];rfl)|(exfalso;simp[hk]at h64 h56 h48 h28 h23 h9)⟩
 refine zg ?_
 constructor<;>intro h69
 ·
  refine xp_skip rfl ?_;refine xp_cond_t rfl (congrArg (fun b=>some (Value.bool b)) h69) ?_;refine zg ?_;refine re_storeL hl 0 rfl rfl rfl rfl rfl rfl rfl (by kernel_rfl) rfl ?_;intro S1 hl;refine zg ?_;refine re_storeL hl 1 rfl rfl rfl rfl rfl rfl rfl (by kernel_rfl) rfl ?_;intro S1 hl;refine zg ?_
  refine done_ret (ress_cell rfl (loadN_of (z:=17) (by kernel_rfl) (by kernel_rfl) (hl.get 1 rfl) rfl) rfl) ⟨hl.keep,by rcases kind_cases k1 k2 with hk|hk|hk|hk|hk|hk|hk|hk|hk|hk|hk|hk<;>first|(rw[kept_k hk];rfl)|(exfalso;simp[hk]at h69 h64 h56 h48 h28 h23 h9)⟩
 refine zS ?_;refine xp_cond rfl rfl (fun h69b=>?_) (fun h69b=>?_)
 ·
  refine zg ?_;refine re_storeL hl 0 rfl rfl rfl rfl rfl rfl rfl (by kernel_rfl) rfl ?_;intro S1 hl;refine zg ?_;refine re_storeL hl 1 rfl rfl rfl rfl rfl rfl rfl (by kernel_rfl) rfl ?_;intro S1 hl;refine zg ?_
  refine done_ret (ress_cell rfl (loadN_of (z:=17) (by kernel_rfl) (by kernel_rfl) (hl.get 1 rfl) rfl) rfl) ⟨hl.keep,by rcases kind_cases k1 k2 with hk|hk|hk|hk|hk|hk|hk|hk|hk|hk|hk|hk<;>first|(rw[kept_k hk];rfl)|(exfalso;simp[hk]at h69b h69 h64 h56 h48 h28 h23 h9)⟩
 refine zg ?_;refine re_storeL hl 1 rfl rfl rfl rfl rfl rfl rfl (by kernel_rfl) rfl ?_;intro S1 hl;refine zg ?_
 refine done_ret (ress_cell rfl (loadN_of (z:=17) (by kernel_rfl) (by kernel_rfl) (hl.get 1 rfl) rfl) rfl) ⟨hl.keep,by rcases kind_cases k1 k2 with hk|hk|hk|hk|hk|hk|hk|hk|hk|hk|hk|hk<;>first|(rw[kept_k hk];rfl)|(exfalso;simp[hk]at h69b h69 h64 h56 h48 h28 h23 h9)⟩
end Go.Proofs.YtmfphenhpkgidaaGreatDoor
namespace Go.Proofs.YtmfphenhpkgidaaGreatDoor
open Go.Cm Go
set_option maxRecDepth 100000
variable{S:St}
noncomputable def c91:Code:=Tryz.f91.body.getD .skip
theorem spec91(s:Sg)(k1:1≤s.kind)(k2:s.kind≤12):CC Tryz.prog KK 91 [s.v] S (fun v S'=>Keep S S'∧v= .bool (rangedF s (ub s.kind 0) (ub s.kind 1) (ub s.kind 2) (ub s.kind 4) (ub s.kind 10) (ub s.kind 11))):=by
 refine cc_enter (c:=c91) (n:=84) Tryz.func91 rfl rfl rfl (by kernel_rfl) rfl rfl ?_
 have hl:=Hold.start S
 refine zg ?_;refine re_boxL hl rfl rfl rfl rfl rfl rfl ?_;intro B1 S1 hl;refine zg ?_
 constructor<;>intro h5
 ·
  refine zg ?_
  refine zc hl rfl (spec113 _ _ _) ?_;rintro v S1 hk1 rfl hl
  refine zg ?_;refine re_bool (d:=10) rfl (fun h10=>?_) (fun h10=>?_)
  ·
   refine zg ?_
   refine zc hl rfl (spec113 _ _ _) ?_;rintro v S1 hk1 rfl hl
   refine zg ?_;refine re_bool (d:=15) rfl (fun h15=>?_) (fun h15=>?_)
   ·
    refine zg ?_
    refine zc hl rfl (spec113 _ _ _) ?_;rintro v S1 hk1 rfl hl
    refine zg ?_
    refine blk_ret ((z1 rfl ⟨hl.keep,congrArg Value.bool (by rcases kind_cases k1 k2 with hk|hk|hk|hk|hk|hk|hk|hk|hk|hk|hk|hk<;>first|(exfalso;simp[hk]at h15 h10 h5;done)|(rw[rng_1 hk];unfold rangedF;simp only[hk,h15,h10,BLs,Int.reduceBEq];done)|(rw[rng_1 hk];unfold rangedF;simp[hk,h15,h10];done)|(rw[rng_1 hk];unfold rangedF;simp only[h15,h10];simp[hk];done))⟩))
   refine zg ?_
   refine blk_ret ((z1 rfl ⟨hl.keep,congrArg Value.bool (by rcases kind_cases k1 k2 with hk|hk|hk|hk|hk|hk|hk|hk|hk|hk|hk|hk<;>first|(exfalso;simp[hk]at h15 h10 h5;done)|(rw[rng_1 hk];unfold rangedF;simp only[hk,h15,h10,BLs,Int.reduceBEq];done)|(rw[rng_1 hk];unfold rangedF;simp[hk,h15,h10];done)|(rw[rng_1 hk];unfold rangedF;simp only[h15,h10];simp[hk];done))⟩))
  refine zg ?_
  refine blk_ret ((z1 rfl ⟨hl.keep,congrArg Value.bool (by rcases kind_cases k1 k2 with hk|hk|hk|hk|hk|hk|hk|hk|hk|hk|hk|hk<;>first|(exfalso;simp[hk]at h10 h5;done)|(rw[rng_1 hk];unfold rangedF;simp only[hk,h10,BLs,Int.reduceBEq];done)|(rw[rng_1 hk];unfold rangedF;simp[hk,h10];done)|(rw[rng_1 hk];unfold rangedF;simp only[h10];simp[hk];done))⟩))
 refine zg ?_
 constructor<;>intro h20
 ·
  refine zg ?_
  refine zc hl rfl (spec113 _ _ _) ?_;rintro v S1 hk1 rfl hl
  refine zg ?_
  refine blk_ret ((z1 rfl ⟨hl.keep,congrArg Value.bool (by rcases kind_cases k1 k2 with hk|hk|hk|hk|hk|hk|hk|hk|hk|hk|hk|hk<;>first|(exfalso;simp[hk]at h20 h5;done)|(rw[rng_2 hk];unfold rangedF;simp only[hk,BLs,Int.reduceBEq];done)|(rw[rng_2 hk];unfold rangedF;simp[hk,hk];done)|(rw[rng_2 hk];unfold rangedF;simp only[hk];simp[hk];done))⟩))
 refine zg ?_
 constructor<;>intro h25
 ·
  refine zg ?_
  refine zc hl rfl (spec113 _ _ _) ?_;rintro v S1 hk1 rfl hl
  refine zg ?_;refine re_bool (d:=30) rfl (fun h30=>?_) (fun h30=>?_)
  ·
   refine zg ?_
   refine zc hl rfl (spec113 _ _ _) ?_;rintro v S1 hk1 rfl hl
   refine zg ?_;refine re_bool (d:=35) rfl (fun h35=>?_) (fun h35=>?_)
   ·
    refine zg ?_
    refine zc hl rfl (spec113 _ _ _) ?_;rintro v S1 hk1 rfl hl
    refine zg ?_
    refine blk_ret ((z1 rfl ⟨hl.keep,congrArg Value.bool (by rcases kind_cases k1 k2 with hk|hk|hk|hk|hk|hk|hk|hk|hk|hk|hk|hk<;>first|(exfalso;simp[hk]at h35 h30 h25 h20 h5;done)|(rw[rng_4 hk];unfold rangedF;simp only[hk,h35,h30,BLs,Int.reduceBEq];done)|(rw[rng_4 hk];unfold rangedF;simp[hk,h35,h30];done)|(rw[rng_4 hk];unfold rangedF;simp only[h35,h30];simp[hk];done))⟩))
   refine zg ?_
   refine blk_ret ((z1 rfl ⟨hl.keep,congrArg Value.bool (by rcases kind_cases k1 k2 with hk|hk|hk|hk|hk|hk|hk|hk|hk|hk|hk|hk<;>first|(exfalso;simp[hk]at h35 h30 h25 h20 h5;done)|(rw[rng_4 hk];unfold rangedF;simp only[hk,h35,h30,BLs,Int.reduceBEq];done)|(rw[rng_4 hk];unfold rangedF;simp[hk,h35,h30];done)|(rw[rng_4 hk];unfold rangedF;simp only[h35,h30];simp[hk];done))⟩))
  refine zg ?_
  refine blk_ret ((z1 rfl ⟨hl.keep,congrArg Value.bool (by rcases kind_cases k1 k2 with hk|hk|hk|hk|hk|hk|hk|hk|hk|hk|hk|hk<;>first|(exfalso;simp[hk]at h30 h25 h20 h5;done)|(rw[rng_4 hk];unfold rangedF;simp only[hk,h30,BLs,Int.reduceBEq];done)|(rw[rng_4 hk];unfold rangedF;simp[hk,h30];done)|(rw[rng_4 hk];unfold rangedF;simp only[h30];simp[hk];done))⟩))
 refine zg ?_
 constructor<;>intro h40
 ·
  refine zg ?_
  refine zc hl rfl (spec113 _ _ _) ?_;rintro v S1 hk1 rfl hl
  refine zg ?_;refine re_bool (d:=45) rfl (fun h45=>?_) (fun h45=>?_)
  ·
   refine zg ?_
   refine zc hl rfl (spec113 _ _ _) ?_;rintro v S1 hk1 rfl hl
   refine zg ?_
   refine blk_ret ((z1 rfl ⟨hl.keep,congrArg Value.bool (by rcases kind_cases k1 k2 with hk|hk|hk|hk|hk|hk|hk|hk|hk|hk|hk|hk<;>first|(exfalso;simp[hk]at h45 h40 h25 h20 h5;done)|(rw[rng_6 hk];unfold rangedF;simp only[hk,h45,BLs,Int.reduceBEq];done)|(rw[rng_6 hk];unfold rangedF;simp[hk,h45];done)|(rw[rng_6 hk];unfold rangedF;simp only[h45];simp[hk];done))⟩))
  refine zg ?_
  refine blk_ret ((z1 rfl ⟨hl.keep,congrArg Value.bool (by rcases kind_cases k1 k2 with hk|hk|hk|hk|hk|hk|hk|hk|hk|hk|hk|hk<;>first|(exfalso;simp[hk]at h45 h40 h25 h20 h5;done)|(rw[rng_6 hk];unfold rangedF;simp only[hk,h45,BLs,Int.reduceBEq];done)|(rw[rng_6 hk];unfold rangedF;simp[hk,h45];done)|(rw[rng_6 hk];unfold rangedF;simp only[h45];simp[hk];done))⟩))
 refine zg ?_
 constructor<;>intro h50
 ·
  refine zg ?_;refine re_bool (d:=56) rfl (fun h56=>?_) (fun h56=>?_)
  ·
   refine zg ?_
   refine zc hl rfl (spec113 _ _ _) ?_;rintro v S1 hk1 rfl hl
   refine zg ?_
   refine blk_ret ((z1 rfl ⟨hl.keep,congrArg Value.bool (by rcases kind_cases k1 k2 with hk|hk|hk|hk|hk|hk|hk|hk|hk|hk|hk|hk<;>first|(exfalso;simp[hk]at h56 h50 h40 h25 h20 h5;done)|(rw[rng_7 hk];unfold rangedF;simp only[hk,BLs,Int.reduceBEq];done)|(rw[rng_7 hk];unfold rangedF;simp[hk];done)|(rw[rng_7 hk];unfold rangedF;simp only[h56];simp[hk];done)|(rw[rng_7 hk];unfold rangedF;simp only[bne,hk,h56,BLs,Int.reduceBEq];done))⟩))
  refine zg ?_;refine re_bool (d:=62) rfl (fun h62=>?_) (fun h62=>?_)
  ·
   refine zg ?_
   refine zc hl rfl (spec113 _ _ _) ?_;rintro v S1 hk1 rfl hl
   refine zg ?_
   refine blk_ret ((z1 rfl ⟨hl.keep,congrArg Value.bool (by rcases kind_cases k1 k2 with hk|hk|hk|hk|hk|hk|hk|hk|hk|hk|hk|hk<;>first|(exfalso;simp[hk]at h62 h56 h50 h40 h25 h20 h5;done)|(rw[rng_7 hk];unfold rangedF;simp only[hk,BLs,Int.reduceBEq];done)|(rw[rng_7 hk];unfold rangedF;simp[hk];done)|(rw[rng_7 hk];unfold rangedF;simp only[h62,h56];simp[hk];done)|(rw[rng_7 hk];unfold rangedF;simp only[bne,hk,h62,h56,BLs,Int.reduceBEq];done))⟩))
  refine zg ?_;refine re_bool (d:=68) rfl (fun h68=>?_) (fun h68=>?_)
  ·
   refine zg ?_
   refine zc hl rfl (spec113 _ _ _) ?_;rintro v S1 hk1 rfl hl
   refine zg ?_
   refine blk_ret ((z1 rfl ⟨hl.keep,congrArg Value.bool (by rcases kind_cases k1 k2 with hk|hk|hk|hk|hk|hk|hk|hk|hk|hk|hk|hk<;>first|(exfalso;simp[hk]at h68 h62 h56 h50 h40 h25 h20 h5;done)|(rw[rng_7 hk];unfold rangedF;simp only[hk,BLs,Int.reduceBEq];done)|(rw[rng_7 hk];unfold rangedF;simp[hk];done)|(rw[rng_7 hk];unfold rangedF;simp only[h68,h62,h56];simp[hk];done)|(rw[rng_7 hk];unfold rangedF;simp only[bne,hk,h68,h62,h56,BLs,Int.reduceBEq];done))⟩))
  refine zg ?_
  refine blk_ret ((z1 rfl ⟨hl.keep,congrArg Value.bool (by rcases kind_cases k1 k2 with hk|hk|hk|hk|hk|hk|hk|hk|hk|hk|hk|hk<;>first|(exfalso;simp[hk]at h68 h62 h56 h50 h40 h25 h20 h5;done)|(rw[rng_7 hk];unfold rangedF;simp only[hk,BLs,Int.reduceBEq];done)|(rw[rng_7 hk];unfold rangedF;simp[hk];done)|(rw[rng_7 hk];unfold rangedF;simp only[h68,h62,h56];simp[hk];done)|(rw[rng_7 hk];unfold rangedF;simp only[bne,hk,h68,h62,h56,BLs,Int.reduceBEq];done))⟩))
 refine zg ?_
 constructor<;>intro h74
 ·
  refine zg ?_
  refine zc hl rfl (spec113 _ _ _) ?_;rintro v S1 hk1 rfl hl
  refine zg ?_
  refine blk_ret ((z1 rfl ⟨hl.keep,congrArg Value.bool (by rcases kind_cases k1 k2 with hk|hk|hk|hk|hk|hk|hk|hk|hk|hk|hk|hk<;>first|(exfalso;simp[hk]at h74 h50 h40 h25 h20 h5;done)|(rw[rng_8 hk];unfold rangedF;simp only[hk,BLs,Int.reduceBEq];done)|(rw[rng_8 hk];unfold rangedF;simp[hk,hk];done)|(rw[rng_8 hk];unfold rangedF;simp only[hk];simp[hk];done))⟩))
 refine zg ?_
 constructor<;>intro h79
 ·
  refine zg ?_
  refine zc hl rfl (spec113 _ _ _) ?_;rintro v S1 hk1 rfl hl
  refine zg ?_
  refine blk_ret ((z1 rfl ⟨hl.keep,congrArg Value.bool (by rcases kind_cases k1 k2 with hk|hk|hk|hk|hk|hk|hk|hk|hk|hk|hk|hk<;>first|(exfalso;simp[hk]at h79 h74 h50 h40 h25 h20 h5;done)|(rw[rng_10 hk];unfold rangedF;simp only[hk,BLs,Int.reduceBEq];done)|(rw[rng_10 hk];unfold rangedF;simp[hk,hk];done)|(rw[rng_10 hk];unfold rangedF;simp only[hk];simp[hk];done))⟩))
 refine zg ?_
 refine y1 rfl ⟨hl.keep,congrArg Value.bool (by rcases kind_cases k1 k2 with hk|hk|hk|hk|hk|hk|hk|hk|hk|hk|hk|hk<;>first|(exfalso;simp[hk]at h79 h74 h50 h40 h25 h20 h5;done)|(rw[rng_3 hk];unfold rangedF;simp only[hk,BLs,Int.reduceBEq];done)|(rw[rng_3 hk];unfold rangedF;simp[hk,hk];done)|(rw[rng_3 hk];unfold rangedF;simp only[hk];simp[hk];done)|(rw[rng_5 hk];unfold rangedF;simp only[hk,BLs,Int.reduceBEq];done)|(rw[rng_5 hk];unfold rangedF;simp[hk,hk];done)|(rw[rng_5 hk];unfold rangedF;simp only[hk];simp[hk];done)|(rw[rng_9 hk];unfold rangedF;simp only[hk,BLs,Int.reduceBEq];done)|(rw[rng_9 hk];unfold rangedF;simp[hk,hk];done)|(rw[rng_9 hk];unfold rangedF;simp only[hk];simp[hk];done)|(rw[rng_11 hk];unfold rangedF;simp only[hk,BLs,Int.reduceBEq];done)|(rw[rng_11 hk];unfold rangedF;simp[hk,hk];done)|(rw[rng_11 hk];unfold rangedF;simp only[hk];simp[hk];done)|(rw[rng_12 hk];unfold rangedF;simp only[hk,BLs,Int.reduceBEq];done)|(rw[rng_12 hk];unfold rangedF;simp[hk,hk];done)|(rw[rng_12 hk];unfold rangedF;simp only[hk];simp[hk];done))⟩
end Go.Proofs.YtmfphenhpkgidaaGreatDoor
namespace Go.Proofs.YtmfphenhpkgidaaGreatDoor
open Go.Cm Go
set_option maxRecDepth 100000
variable{S:St}
theorem one_1{s:Sg}(h:(decide (s.kind<1)||decide (s.kind>12))=true):one s=8:=by unfold one;rw[h];rfl
theorem one_2{s:Sg}(h:(decide (s.kind<1)||decide (s.kind>12))=false)(h2:(!decide (keptS s (ub s.kind 0) (ub s.kind 1) (ub s.kind 2) (ub s.kind 3) (ub s.kind 4) (ub s.kind 5) (ub s.kind 6) (ub s.kind 7) (ub s.kind 8) (ub s.kind 9) (ub s.kind 10) (ub s.kind 11)=s))=true):one s=3:=by
 have h2':(!decide (s=keptS s (ub s.kind 0) (ub s.kind 1) (ub s.kind 2) (ub s.kind 3) (ub s.kind 4) (ub s.kind 5) (ub s.kind 6) (ub s.kind 7) (ub s.kind 8) (ub s.kind 9) (ub s.kind 10) (ub s.kind 11)))=true:=by rw[←h2];congr 1;simp only[eq_comm]
 unfold one;rw[h,h2'];rfl
theorem one_k{s:Sg}(h2:(!decide (keptS s (ub s.kind 0) (ub s.kind 1) (ub s.kind 2) (ub s.kind 3) (ub s.kind 4) (ub s.kind 5) (ub s.kind 6) (ub s.kind 7) (ub s.kind 8) (ub s.kind 9) (ub s.kind 10) (ub s.kind 11)=s))=false):(!decide (s=keptS s (ub s.kind 0) (ub s.kind 1) (ub s.kind 2) (ub s.kind 3) (ub s.kind 4) (ub s.kind 5) (ub s.kind 6) (ub s.kind 7) (ub s.kind 8) (ub s.kind 9) (ub s.kind 10) (ub s.kind 11)))=false:=by rw[←h2];congr 1;simp only[eq_comm]
theorem one_3{s:Sg}(h:(decide (s.kind<1)||decide (s.kind>12))=false)(h2:(!decide (keptS s (ub s.kind 0) (ub s.kind 1) (ub s.kind 2) (ub s.kind 3) (ub s.kind 4) (ub s.kind 5) (ub s.kind 6) (ub s.kind 7) (ub s.kind 8) (ub s.kind 9) (ub s.kind 10) (ub s.kind 11)=s))=false)(h3:(ub s.kind 7&&(mensE s.mx s.md s.tm s.pr !=0))=true):one s=12:=by
 unfold one;rw[h,one_k h2,h3];rfl
theorem one_4{s:Sg}(h:(decide (s.kind<1)||decide (s.kind>12))=false)(h2:(!decide (keptS s (ub s.kind 0) (ub s.kind 1) (ub s.kind 2) (ub s.kind 3) (ub s.kind 4) (ub s.kind 5) (ub s.kind 6) (ub s.kind 7) (ub s.kind 8) (ub s.kind 9) (ub s.kind 10) (ub s.kind 11)=s))=false)(h3:(ub s.kind 7&&(mensE s.mx s.md s.tm s.pr !=0))=false)(h4:(!rangedF s (ub s.kind 0) (ub s.kind 1) (ub s.kind 2) (ub s.kind 4) (ub s.kind 10) (ub s.kind 11))=true):one s=2:=by
 unfold one;rw[h,one_k h2,h3,h4];rfl
theorem one_5{s:Sg}(h:(decide (s.kind<1)||decide (s.kind>12))=false)(h2:(!decide (keptS s (ub s.kind 0) (ub s.kind 1) (ub s.kind 2) (ub s.kind 3) (ub s.kind 4) (ub s.kind 5) (ub s.kind 6) (ub s.kind 7) (ub s.kind 8) (ub s.kind 9) (ub s.kind 10) (ub s.kind 11)=s))=false)(h3:(ub s.kind 7&&(mensE s.mx s.md s.tm s.pr !=0))=false)(h4:(!rangedF s (ub s.kind 0) (ub s.kind 1) (ub s.kind 2) (ub s.kind 4) (ub s.kind 10) (ub s.kind 11))=false)(h5:(s.oblique&&s.last)=true):one s=3:=by
 unfold one;rw[h,one_k h2,h3,h4,h5];rfl
theorem one_6{s:Sg}(h:(decide (s.kind<1)||decide (s.kind>12))=false)(h2:(!decide (keptS s (ub s.kind 0) (ub s.kind 1) (ub s.kind 2) (ub s.kind 3) (ub s.kind 4) (ub s.kind 5) (ub s.kind 6) (ub s.kind 7) (ub s.kind 8) (ub s.kind 9) (ub s.kind 10) (ub s.kind 11)=s))=false)(h3:(ub s.kind 7&&(mensE s.mx s.md s.tm s.pr !=0))=false)(h4:(!rangedF s (ub s.kind 0) (ub s.kind 1) (ub s.kind 2) (ub s.kind 4) (ub s.kind 10) (ub s.kind 11))=false)(h5:(s.oblique&&s.last)=false):one s=0:=by
 unfold one;rw[h,one_k h2,h3,h4,h5];rfl
noncomputable def c69:Code:=Tryz.f69.body.getD .skip
theorem spec69(s:Sg):CC Tryz.prog KK 69 [s.v] S (fun v S'=>Keep S S'∧v= .int .i64 (one s)):=by
 refine cc_enter (c:=c69) (n:=38) Tryz.func69 rfl rfl rfl (by kernel_rfl) rfl rfl ?_
 have hl:=Hold.start S
 refine zg ?_;refine re_boxL hl rfl rfl rfl rfl rfl rfl ?_;intro B1 S1 hl;refine zA ?_;refine xp_seq rfl ?_;refine xp_block rfl ?_;refine xp_seq rfl (xe_toL hl [(3,.bool (decide (s.kind<1)||decide (s.kind>12))),(1,ptrTo B1 0)] ?_ ?_)
 ·
  refine zg ?_;refine re_bool (d:=7) rfl (fun h7=>?_) (fun h7=>?_)
  ·
   refine zg ?_
   exact⟨rfl,⟨bl (by first|(simp[h7];done)|(simp only[h7,BLs])),rfl,trivial⟩,hl⟩
  refine zg ?_
  exact⟨rfl,⟨bl (by first|(simp[h7];done)|(simp only[h7,BLs])),rfl,trivial⟩,hl⟩
 intro S1 hl
 refine zg ?_
 constructor<;>intro h3
 ·
  refine zg ?_
  refine blk_ret ((z1 rfl ⟨hl.keep,congrArg (Value.int .i64) (one_1 h3).symm⟩))
 have k1:1≤s.kind:=by simp at h3;omega
 have k2:s.kind≤12:=by simp at h3;omega
 refine zg ?_;refine xp_draw (idx:=[0,2,1,3,4]) rfl (by kernel_rfl) (by kernel_rfl) ?_;refine zg ?_
 refine zp hl rfl (spec89 s k1 k2) ?_;rintro v S1 hk1 rfl hl;refine⟨stays_of ⟨stays_load (X:=True) rfl rfl (loadN_of (z:=17) (by kernel_rfl) (by kernel_rfl) (hl.get 0 rfl) rfl) (same_agg rfl (atoms_sign s)) rfl trivial,stays_load (X:=True) rfl rfl (loadN_of (z:=17) (by kernel_rfl) (by kernel_rfl) (hl.get 0 rfl) rfl) (same_agg rfl (atoms_sign s)) rfl trivial,trivial⟩,?_⟩
 refine pr rfl (rd_bin rfl rfl rfl (neSign _ _ (keptS s (ub s.kind 0) (ub s.kind 1) (ub s.kind 2) (ub s.kind 3) (ub s.kind 4) (ub s.kind 5) (ub s.kind 6) (ub s.kind 7) (ub s.kind 8) (ub s.kind 9) (ub s.kind 10) (ub s.kind 11)) s)) ?_;refine zg ?_
 constructor<;>intro h12
 ·
  refine zg ?_
  refine blk_ret ((z1 rfl ⟨hl.keep,congrArg (Value.int .i64) (one_2 h3 h12).symm⟩))
 refine xp_seq rfl (xe_toL hl [(17,.bool (ub s.kind 7&&(mensE s.mx s.md s.tm s.pr !=0))),(1,ptrTo B1 0)] ?_ ?_)
 ·
  refine zg ?_;refine re_bool (d:=21) rfl (fun h21=>?_) (fun h21=>?_)
  ·
   refine zg ?_
   refine zc hl rfl (spec90 _ _ _ _) ?_;rintro v S1 hk1 rfl hl
   refine zg ?_
   exact⟨rfl,⟨bl (by rw[ub7 k1 k2];simp only[h21,BLs]),rfl,trivial⟩,hl⟩
  refine zg ?_
  exact⟨rfl,⟨bl (by rw[ub7 k1 k2];simp only[h21,BLs]),rfl,trivial⟩,hl⟩
 intro S1 hl
 refine zg ?_
 constructor<;>intro h17
 ·
  refine zg ?_
  refine blk_ret ((z1 rfl ⟨hl.keep,congrArg (Value.int .i64) (one_3 h3 h12 h17).symm⟩))
 refine zg ?_
 refine zc hl rfl (spec91 s k1 k2) ?_;rintro v S1 hk1 rfl hl
 refine rr rfl (rd_un rfl rfl rfl) ?_;refine zg ?_
 constructor<;>intro h27
 ·
  refine zg ?_
  refine blk_ret ((z1 rfl ⟨hl.keep,congrArg (Value.int .i64) (one_4 h3 h12 h17 h27).symm⟩))
 refine xp_seq rfl (xe_toL hl [(31,.bool (s.oblique&&s.last)),(1,ptrTo B1 0)] ?_ ?_)
 ·
  refine zg ?_;refine re_bool (d:=34) rfl (fun h34=>?_) (fun h34=>?_)
  ·
   refine zg ?_
   exact⟨rfl,⟨bl (by first|(simp[h34];done)|(simp only[h34,BLs])),rfl,trivial⟩,hl⟩
  refine zg ?_
  exact⟨rfl,⟨bl (by first|(simp[h34];done)|(simp only[h34,BLs])),rfl,trivial⟩,hl⟩
 intro S1 hl
 refine zg ?_
 constructor<;>intro h31
 ·
  refine zg ?_
  refine blk_ret ((z1 rfl ⟨hl.keep,congrArg (Value.int .i64) (one_5 h3 h12 h17 h27 h31).symm⟩))
 refine zg ?_
 refine y1 rfl ⟨hl.keep,congrArg (Value.int .i64) (one_6 h3 h12 h17 h27 h31).symm⟩
theorem okc_ref(c:Int):((!(decide (97≤c)&&decide (c≤122))&&!(decide (48≤c)&&decide (c≤57)))&&(c !=45))=!okc c:=by
 have e1:decide (c<97)=!decide (97≤c):=by rw[Bool.eq_iff_iff];simp
 have e2:decide (c>122)=!decide (c≤122):=by rw[Bool.eq_iff_iff];simp
 have e3:decide (c<48)=!decide (48≤c):=by rw[Bool.eq_iff_iff];simp
 have e4:decide (c>57)=!decide (c≤57):=by rw[Bool.eq_iff_iff];simp
 unfold okc
 rw[e1,e2,e3,e4,Bool.not_not]
 cases decide (97≤c)<;>cases decide (c≤122)<;>cases decide (48≤c)<;>cases decide (c≤57)<;>cases (c !=45)<;>rfl
theorem sameBytes_nil:∀l:List UInt8,sameBytes l []=((l.length:Int)==0)
 | []=>rfl
 |a::l=>by
  show false=_
  symm
  simp
  omega
theorem nil_of{l:List UInt8}(h:(!sameBytes l [])=true):((l.length:Int)==0)=false:=by
 rw[sameBytes_nil]at h
 cases hb:((l.length:Int)==0)with
 |true=>rw[hb]at h;cases h
 |false=>rfl
theorem name_end{l:List UInt8}(h0:((l.length:Int)==0)=false)(h1:decide ((l.length:Int)≤20)=true)(ha:(l.all fun c=>okc c.toNat)=true):(decide (97≤hd0 l)&&decide (hd0 l≤122))=nameF l:=by
 have e1:decide (hd0 l<97)=!decide (97≤hd0 l):=by rw[Bool.eq_iff_iff];simp
 have e2:decide (hd0 l>122)=!decide (hd0 l≤122):=by rw[Bool.eq_iff_iff];simp
 have e3:decide ((l.length:Int)>20)=false:=by have:=of_decide_eq_true h1;rw[decide_eq_false_iff_not];omega
 unfold nameF nameB
 rw[h0,e3,e1,e2,ha]
 cases decide (97≤hd0 l)<;>cases decide (hd0 l≤122)<;>rfl
theorem name_long{l:List UInt8}(h1:decide ((l.length:Int)≤20)=false):false=nameF l:=by
 have e3:decide ((l.length:Int)>20)=true:=by have:=of_decide_eq_false h1;rw[decide_eq_true_iff];omega
 unfold nameF nameB
 rw[e3,Bool.or_true]
 rfl
theorem name_none{l:List UInt8}(h:(!sameBytes l [])=false):false=nameF l:=by
 rw[sameBytes_nil]at h
 have h0:((l.length:Int)==0)=true:=by cases hb:((l.length:Int)==0)with
  |true=>rfl
  |false=>rw[hb]at h;cases h
 unfold nameF nameB
 rw[h0]
 rfl
noncomputable def c39:Code:=Tryz.f39.body.getD .skip
theorem spec39(s:ByteArray)(hlen:s.data.toList.length≤1000):CC Tryz.prog KK 39 [.string s] S (fun v S'=>Keep S S'∧v= .bool (nameF s.data.toList)):=by
 refine cc_enter (c:=c39) (n:=40) Tryz.func39 rfl rfl rfl (by kernel_rfl) rfl rfl ?_
 have hl:=Hold.start S
 refine zS ?_;refine xp_seq rfl ?_;refine zS ?_;refine xp_block rfl ?_
 -- LOOP
 refine xe_sub (L':=[(3,.int .i64 0),(0,.string s)]) ⟨rfl,rfl,trivial⟩ ?_
 refine xp_loop rfl (fun m Le S'=>∃i:Nat,i≤s.data.toList.length∧m=s.data.toList.length-i∧SubE [(3,.int .i64 (i:Int)),(0,.string s)] Le∧(∀j,j<i→∀c,nth s.data.toList j=some c→okc c.toNat=true)∧Hold S [S] S' []) ?_ (m:=s.data.toList.length) ⟨0,by omega,rfl,⟨rfl,rfl,trivial⟩,fun j hj=>by omega,hl⟩
 clear hl;rintro m Le S' ⟨i,hi,rfl,hsub,hok,hl⟩;refine xe_sub hsub ?_
 refine xp_seq rfl ?_;refine zS ?_;refine rr rfl (rd_len rfl rfl (len_string Tryz.underlying9)) ?_;refine zA ?_;refine zi tt rfl ?_
 constructor<;>intro h7
 ·
  have hlt:i<s.data.toList.length:=by have:=of_decide_eq_true h7;omega
  obtain⟨c,hc⟩:=nth_some hlt
  refine xp_skip rfl ?_;refine xp_seq rfl ?_;refine xp_block rfl ?_;refine xp_seq rfl (xe_toL hl [(27,.bool (!okc c.toNat)),(3,.int .i64 (i:Int)),(0,.string s)] ?_ ?_)
  ·
   refine zg ?_;refine rr rfl (rd_index rfl rfl rfl (index_string Tryz.underlying9 (by omega) hc)) ?_
   refine zc hl rfl (spec67 _) ?_;rintro v S1 hk1 rfl hl
   refine rr rfl (rd_un rfl rfl rfl) ?_;refine zg ?_;refine re_bool (d:=15) rfl (fun h15=>?_) (fun h15=>?_)
   ·
    refine zg ?_;refine rr rfl (rd_index rfl rfl rfl (index_string Tryz.underlying9 (by omega) hc)) ?_
    refine zc hl rfl (spec68 _) ?_;rintro v S1 hk1 rfl hl
    refine rr rfl (rd_un rfl rfl rfl) ?_;refine zg ?_;refine re_bool (d:=22) rfl (fun h22=>?_) (fun h22=>?_)
    ·
     refine zg ?_;refine rr rfl (rd_index rfl rfl rfl (index_string Tryz.underlying9 (by omega) hc)) ?_;refine zg ?_
     exact⟨rfl,⟨bl (by rw[←okc_ref];simp only[h22,h15,BLs]),rfl,rfl,trivial⟩,hl⟩
    refine zg ?_
    exact⟨rfl,⟨bl (by rw[←okc_ref];simp only[h22,h15,BLs]),rfl,rfl,trivial⟩,hl⟩
   refine zg ?_
   exact⟨rfl,⟨bl (by rw[←okc_ref];simp only[h15,BLs]),rfl,rfl,trivial⟩,hl⟩
  intro S1 hl
  refine zg ?_
  constructor<;>intro h27
  ·
   refine zg ?_
   refine blk_ret (thn_ret (round_ret (blk_ret ((z1 rfl ⟨hl.keep,congrArg Value.bool (by unfold nameF;rw[all_no hc (by simpa using h27),Bool.and_false])⟩)))))
  refine xp_skip rfl ?_;refine xg (by kernel_rfl) ?_;refine rm rfl ?_;refine rr rfl (rd_bin rfl rfl rfl rfl) ?_;refine rm rfl ?_;refine re_end rfl ?_
  refine⟨s.data.toList.length-(i+1),by omega,i+1,by omega,rfl,⟨congrArg some (congrArg (Value.int .i64) (IntWalk.i64_in _ (by omega))),rfl,trivial⟩,fun j hj y hy=>?_,hl⟩
  rcases Nat.lt_succ_iff_lt_or_eq.1 hj with hj|rfl
  ·exact hok j hj y hy
  rw[hc]at hy;cases hy;simpa using h27
 refine zg ?_;refine re_bool (d:=30) rfl (fun h30=>?_) (fun h30=>?_)
 ·
  refine zA ?_;refine rr rfl (rd_len rfl rfl (len_string Tryz.underlying9)) ?_;refine zA ?_;refine re_bool (d:=35) rfl (fun h35=>?_) (fun h35=>?_)
  ·
   refine zg ?_;refine rr rfl (rd_index rfl rfl rfl (index_string Tryz.underlying9 (Int.le_refl 0) (nth_hd (nil_of h30)))) ?_
   refine zc hl rfl (spec67 _) ?_;rintro v S1 hk1 rfl hl
   refine zg ?_
   refine y1 rfl ⟨hl.keep,congrArg Value.bool (name_end (nil_of h30) h35 (all_yes fun j hj c hc=>hok j (by have:=of_decide_eq_false h7;omega) c hc))⟩
  refine zg ?_
  refine y1 rfl ⟨hl.keep,congrArg Value.bool (name_long h35)⟩
 refine zg ?_
 refine y1 rfl ⟨hl.keep,congrArg Value.bool (name_none h30)⟩
end Go.Proofs.YtmfphenhpkgidaaGreatDoor
namespace Go.Proofs.YtmfphenhpkgidaaGreatDoor
open Go.Cm Go
set_option maxRecDepth 100000
variable{S:St}
def spotE(x:Spt):Int:=bif szB x then 3 else signsE [] x.signs
noncomputable def c40:Code:=Tryz.f40.body.getD .skip
theorem spec40(a:Option Addr)(cap:Nat)(x:Spt)(hn:x.signs.length≤1000)(hv:Signs S (.slice a x.signs.length cap) x.signs):CC Tryz.prog KK 40 [aggL [.slice a x.signs.length cap,.bool x.blank]] S (fun v S'=>Keep S S'∧v= .int .i64 (spotE x)):=by
 refine cc_enter (c:=c40) (n:=39) Tryz.func40 rfl rfl rfl (by kernel_rfl) rfl rfl ?_
 have hl:=Hold.start S
 refine zg ?_;refine re_boxL hl rfl rfl rfl rfl rfl rfl ?_;intro B1 S1 hl;refine zA ?_;refine xp_seq rfl ?_;refine xp_seq rfl (xe_toL hl [(12,.bool (szB x)),(1,ptrTo B1 0)] ?_ ?_)
 ·
  refine zg ?_
  refine zc hl rfl (spec41 a x.signs.length cap x.blank hn) ?_;rintro v S1 hk1 rfl hl
  refine zg ?_;refine re_bool (d:=8) rfl (fun h8=>?_) (fun h8=>?_)
  ·
   refine zg ?_
   exact⟨rfl,⟨bl (by unfold szB sizeF;simp only[h8,BLs]),rfl,trivial⟩,hl⟩
  refine zg ?_
  refine zc hl rfl (spec41 a x.signs.length cap x.blank hn) ?_;rintro v S1 hk1 rfl hl
  refine zg ?_
  exact⟨rfl,⟨bl (by unfold szB sizeF;simp only[h8,BLs]),rfl,trivial⟩,hl⟩
 intro S1 hl
 refine zg ?_
 constructor<;>intro h12
 ·
  refine zg ?_
  exact(z1 rfl ⟨hl.keep,congrArg (Value.int .i64) (by unfold spotE;rw[h12];rfl)⟩)
 refine xp_skip rfl ?_;refine xp_seq rfl ?_;refine zS ?_;refine xp_block rfl ?_
 -- LOOP
 refine xe_sub (L':=[(3,.int .i64 0),(1,ptrTo B1 0)]) ⟨rfl,rfl,trivial⟩ ?_
 refine xp_loop rfl (fun m Le S'=>∃k:Nat,k≤x.signs.length∧m=x.signs.length-k∧SubE [(3,.int .i64 (k:Int)),(1,ptrTo B1 0)] Le∧signsE (x.signs.take k) (x.signs.drop k)=signsE [] x.signs∧Hold S [S] S' [(B1,.cells [.slice a x.signs.length cap,.bool x.blank] 49 false true [])]) ?_ (m:=x.signs.length) ⟨0,by omega,rfl,⟨rfl,rfl,trivial⟩,rfl,hl⟩
 clear hl;rintro m Le S' ⟨k,hk,rfl,hsub,hin,hl⟩;refine xe_sub hsub ?_
 refine zg ?_
 constructor<;>intro h17
 ·
  have hlt:k<x.signs.length:=by have:=of_decide_eq_true h17;omega
  obtain⟨y,hy⟩:=nth_some hlt
  obtain⟨b2,o2,cs2,ha,_,hrow,htk⟩:=hv.elem hy
  refine zg ?_
  refine zc hl rfl (spec69 y) ?_;rintro v S1 hk1 rfl hl
  refine zg ?_
  constructor<;>intro h27
  ·
   refine zg ?_
   refine thn_ret (blk_ret (thn_ret (round_ret (blk_ret ((z1 rfl ⟨hl.keep,congrArg (Value.int .i64) (by unfold spotE;rw[h12,←hin,drop_nth' hy,signsE_one h27];rfl)⟩))))))
  refine zg ?_
  obtain⟨a3,cap3,hsl,hsg3⟩:=(hv.move (hl.since 0 rfl)).front hlt
  refine xp_draw (idx:=[0,1,2,3,4,5,6,7,8,9]) rfl (by kernel_rfl) (by kernel_rfl) ?_;refine zg ?_;refine pk rfl (rd_slice rfl rfl rfl rfl rfl hsl) ?_;refine zg ?_
  refine zp hl rfl (spec70 a3 cap3 (x.signs.take k) y (by rw[List.length_take];omega) hsg3) ?_;rintro v S1 hk1 rfl hl;refine⟨stays_all (by kernel_rfl),?_⟩
  refine zg ?_
  constructor<;>intro h38
  ·
   refine zg ?_
   refine blk_ret (thn_ret (round_ret (blk_ret ((z1 rfl ⟨hl.keep,congrArg (Value.int .i64) (by unfold spotE;rw[h12,←hin,drop_nth' hy,signsE_dup h27 h38];rfl)⟩)))))
  refine xp_skip rfl ?_;refine xg (by kernel_rfl) ?_;refine rm rfl ?_;refine rr rfl (rd_bin rfl rfl rfl rfl) ?_;refine rm rfl ?_;refine re_end rfl ?_
  exact⟨x.signs.length-(k+1),by omega,k+1,by omega,rfl,⟨congrArg some (congrArg (Value.int .i64) (IntWalk.i64_in _ (by omega))),rfl,trivial⟩,by rw[take_nth' hy,←signsE_step h27 h38,←drop_nth' hy];exact hin,hl⟩
 refine zg ?_
 refine y1 rfl ⟨hl.keep,congrArg (Value.int .i64) (by unfold spotE;rw[h12,←hin,List.drop_eq_nil_of_le (by have:=of_decide_eq_false h17;omega)];rfl)⟩
theorem spotsE_ref{x:Spt}{r:List Spt}{i:Nat}(h:(spotE x !=0)=true):spotsE (x::r) i=(spotE x,(i:Int)):=by
 unfold spotE at *
 cases hb:szB x with
 |true=>rw[spotsE_size hb];rfl
 |false =>
  rw[hb]at h
  exact spotsE_err hb rfl h
theorem spotsE_go{x:Spt}{r:List Spt}{i:Nat}(h:(spotE x !=0)=false):spotsE (x::r) i=spotsE r (i+1):=by
 unfold spotE at h
 cases hb:szB x with
 |true=>rw[hb]at h;cases h
 |false =>
  rw[hb]at h
  refine spotsE_step hb ?_
  have h':(signsE [] x.signs !=0)=false:=h
  simpa using h'
noncomputable def c10:Code:=Tryz.f10.body.getD .skip
theorem spec10(nm:ByteArray)(a:Option Addr)(cap:Nat)(L:List Spt)(hnm:nm.data.toList.length≤1000)(hn:L.length≤1000)(hs:∀x,x∈L→x.signs.length≤1000)(hv:Spots S (.slice a L.length cap) L):CC Tryz.prog KK 10 [aggL [.string nm,.slice a L.length cap]] S (fun v S'=>Keep S S'∧v=tupV [.int .i64 (checkF nm.data.toList L).1,.int .i64 (checkF nm.data.toList L).2]):=by
 refine cc_enter (c:=c10) (n:=31) Tryz.func10 rfl rfl rfl (by kernel_rfl) rfl rfl ?_
 have hl:=Hold.start S
 refine zg ?_;refine re_boxL hl rfl rfl rfl rfl rfl rfl ?_;intro B1 S1 hl;refine zg ?_
 refine zc hl rfl (spec39 nm hnm) ?_;rintro v S1 hk1 rfl hl
 refine rr rfl (rd_un rfl rfl rfl) ?_;refine zg ?_
 constructor<;>intro h9
 ·
  refine zg ?_
  exact(z2 rfl rfl ⟨hl.keep,res2 (by unfold checkF;rw[h9];rfl)⟩)
 refine zg ?_
 constructor<;>intro h13
 ·
  refine zg ?_
  exact(z2 rfl rfl ⟨hl.keep,res2 (by unfold checkF;rw[h9,h13];rfl)⟩)
 refine xp_skip rfl ?_;refine xp_seq rfl ?_;refine zS ?_;refine xp_block rfl ?_
 -- LOOP
 have hck:checkF nm.data.toList L=spotsE L 0:=by unfold checkF;rw[h9,h13];rfl
 refine xe_sub (L':=[(4,.int .i64 0),(1,ptrTo B1 0)]) ⟨rfl,rfl,trivial⟩ ?_
 refine xp_loop rfl (fun m Le S'=>∃i:Nat,i≤L.length∧m=L.length-i∧SubE [(4,.int .i64 (i:Int)),(1,ptrTo B1 0)] Le∧spotsE (L.drop i) i=spotsE L 0∧Hold S [S] S' [(B1,.cells [.string nm,.slice a L.length cap] 24 false true [])]) ?_ (m:=L.length) ⟨0,by omega,rfl,⟨rfl,rfl,trivial⟩,rfl,hl⟩
 clear hl;rintro m Le S' ⟨i,hi,rfl,hsub,hpr,hl⟩;refine xe_sub hsub ?_
 refine zg ?_
 constructor<;>intro h18
 ·
  have hlt:i<L.length:=by have:=of_decide_eq_true h18;omega
  obtain⟨x,hx⟩:=nth_some hlt
  obtain⟨bx,ox,csx,ax,capx,hax,hrowx,htkx,hsgx⟩:=hv.elem hx
  have hxs:x.signs.length≤1000:=hs x (nth_mem hx)
  refine zg ?_
  refine zc hl rfl (spec40 ax capx x hxs (hsgx.move (hl.since 0 rfl))) ?_;rintro v S1 hk1 rfl hl
  refine zg ?_
  constructor<;>intro h28
  ·
   refine zg ?_
   refine blk_ret (thn_ret (round_ret (blk_ret ((z2 rfl rfl ⟨hl.keep,res2 (by rw[hck,←hpr,drop_nth' hx,spotsE_ref h28])⟩)))))
  refine xp_skip rfl ?_;refine xg (by kernel_rfl) ?_;refine rm rfl ?_;refine rr rfl (rd_bin rfl rfl rfl rfl) ?_;refine rm rfl ?_;refine re_end rfl ?_
  exact⟨L.length-(i+1),by omega,i+1,by omega,rfl,⟨congrArg some (congrArg (Value.int .i64) (IntWalk.i64_in _ (by omega))),rfl,trivial⟩,by rw[←spotsE_go h28,←drop_nth' hx];exact hpr,hl⟩
 refine zg ?_
 refine y2 rfl rfl ⟨hl.keep,res2 (by rw[hck,←hpr,List.drop_eq_nil_of_le (by have:=of_decide_eq_false h18;omega)];rfl)⟩
end Go.Proofs.YtmfphenhpkgidaaGreatDoor
namespace Go.Proofs.YtmfphenhpkgidaaGreatDoor
open Go.Cm Go
set_option maxRecDepth 100000
variable{S:St}
def nextT:List Sg→Bool
 | []=>false
 |y::_=>y.kind==4
def runE:Bool→List Sg→Nat→Int×Int
 |_,[],_=>(0,0)
 |b,s::r,i=>bif one s !=0 then(one s,i)else bif s.kind !=4 then runE b r (i+1)else bif s.last&&!b then(3,i)else bif s.last then runE false r (i+1)else bif nextT r then runE true r (i+1)else(3,i)
def partE(nm:List UInt8)(C:List Sg):Int×Int:=bif !nameF nm then(7,0)else bif decide ((C.length:Int)>400)then(11,0)else runE false C 0
def openB(C:List Sg)(i:Nat):Bool:=match i with
 |0=>false
 |j+1=>match nth C j with
  |some s=>(s.kind==4)&&!s.last
  |none=>false
end Go.Proofs.YtmfphenhpkgidaaGreatDoor

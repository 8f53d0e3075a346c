/-
  sign.Check.
-/
import Derived.Test.YtmfphenhpkgidaaGreatDoorSmB
import Derived.Test.YtmfphenhpkgidaaGreatDoorSy1


namespace Go.Proofs.YtmfphenhpkgidaaGreatDoor
open Go.Cm Go
set_option maxRecDepth 100000
variable{S:St}
theorem runE_1{b:Bool}{s:Sg}{r:List Sg}{i:Nat}(h:(one s !=0)=true):runE b (s::r) i=(one s,(i:Int)):=by
 rw[runE,h];rfl
theorem runE_2{b:Bool}{s:Sg}{r:List Sg}{i:Nat}(h:(one s !=0)=false)(h2:(s.kind !=4)=true):runE b (s::r) i=runE b r (i+1):=by
 rw[runE,h,h2];rfl
theorem runE_3{b:Bool}{s:Sg}{r:List Sg}{i:Nat}(h:(one s !=0)=false)(h2:(s.kind !=4)=false)(h3:(s.last&&!b)=true):runE b (s::r) i=(3,(i:Int)):=by
 rw[runE,h,h2,h3];rfl
theorem runE_4{b:Bool}{s:Sg}{r:List Sg}{i:Nat}(h:(one s !=0)=false)(h2:(s.kind !=4)=false)(h3:(s.last&&!b)=false)(h4:s.last=true):runE b (s::r) i=runE false r (i+1):=by
 rw[runE,h,h2,h3,h4];rfl
theorem runE_5{b:Bool}{s:Sg}{r:List Sg}{i:Nat}(h:(one s !=0)=false)(h2:(s.kind !=4)=false)(h3:(s.last&&!b)=false)(h4:s.last=false)(h5:(!nextT r)=true):runE b (s::r) i=(3,(i:Int)):=by
 have h5':nextT r=false:=by simpa using h5
 rw[runE,h,h2,h3,h4,h5'];rfl
theorem runE_6{b:Bool}{s:Sg}{r:List Sg}{i:Nat}(h:(one s !=0)=false)(h2:(s.kind !=4)=false)(h3:(s.last&&!b)=false)(h4:s.last=false)(h5:(!nextT r)=false):runE b (s::r) i=runE true r (i+1):=by
 have h5':nextT r=true:=by simpa using h5
 rw[runE,h,h2,h3,h4,h5'];rfl
theorem nextT_end{C:List Sg}{i:Nat}(h:C.length≤i):nextT (C.drop i)=false:=by rw[List.drop_eq_nil_of_le h];rfl
theorem nextT_at{C:List Sg}{i:Nat}{s:Sg}(h:nth C i=some s):nextT (C.drop i)=(s.kind==4):=by rw[drop_nth' h];rfl
noncomputable def c44:Code:=Tryz.f44.body.getD .skip
theorem spec44(nm:ByteArray)(a:Option Addr)(cap:Nat)(C:List Sg)(hn:C.length≤1000)(hG:Gl S)(hv:Signs S (.slice a C.length cap) C):CC Tryz.prog KK 44 [aggL [.string nm,.slice a C.length cap]] S (fun v S'=>Keep S S'∧v=tupV [.int .i64 (partE nm.data.toList C).1,.int .i64 (partE nm.data.toList C).2]):=by
 refine cc_enter (c:=c44) (n:=67) Tryz.func44 rfl rfl rfl (by kernel_rfl) rfl rfl ?_
 have hl:=Hold.start S
 refine zg ?_;refine re_boxL hl rfl rfl rfl rfl rfl rfl ?_;intro B1 S1 hl;refine zg ?_;refine xp_scope rfl ?_;refine zg ?_
 refine zc hl rfl (spec35 nm) ?_;rintro v S1 hk1 rfl hl
 refine rr rfl (rd_un rfl rfl rfl) ?_;refine zg ?_
 constructor<;>intro h11
 ·
  refine zg ?_
  refine thn_ret (scp_ret (y2 rfl rfl ⟨hl.keep,res2 (by unfold partE;rw[h11];rfl)⟩))
 refine zg ?_
 constructor<;>intro h15
 ·
  refine zg ?_
  refine thn_ret (scp_ret (y2 rfl rfl ⟨hl.keep,res2 (by unfold partE;rw[h11,h15];rfl)⟩))
 refine zg ?_;refine xp_label rfl ?_;refine xp_seq rfl ?_;refine zS ?_;refine xp_block rfl ?_
 -- LOOP
 have hck:partE nm.data.toList C=runE false C 0:=by unfold partE;rw[h11,h15];rfl
 refine xe_sub (L':=[(4,.bool false),(19,.int .i64 0),(18,.int .i64 C.length),(1,ptrTo B1 0)]) ⟨rfl,rfl,rfl,rfl,trivial⟩ ?_
 refine xp_loop rfl (fun m Le S'=>∃(i:Nat) (b:Bool),i≤C.length∧m=C.length-i∧SubE [(4,.bool b),(19,.int .i64 (i:Int)),(18,.int .i64 C.length),(1,ptrTo B1 0)] Le∧runE b (C.drop i) i=runE false C 0∧Hold S [S] S' [(B1,.cells [.string nm,.slice a C.length cap] 44 false true [])]) ?_ (m:=C.length) ⟨0,false,by omega,rfl,⟨rfl,rfl,rfl,rfl,trivial⟩,rfl,hl⟩
 clear hl;rintro m Le S' ⟨i,b,hi,rfl,hsub,hin,hl⟩;refine xe_sub hsub ?_
 refine zg ?_
 constructor<;>intro h20
 ·
  have hlt:i<C.length:=by have:=of_decide_eq_true h20;omega
  obtain⟨s,hs⟩:=nth_some hlt
  obtain⟨b1,o1,cs1,ha,_,hrow,htk⟩:=hv.elem hs
  refine zg ?_;refine re_allocL hl rfl rfl rfl rfl rfl (z:=[.int .i64 0,.int .i64 0,.int .i64 0,.int .i64 0,.bool false,.int .i64 0,.bool false,.bool false,.int .i64 0,.int .i64 0,.int .i64 0,.int .i64 0,.bool false,.int .i64 0,.int .i64 0,.int .i64 0,.int .i64 0]) (by kernel_rfl) ?_;intro B6 S6 hl;refine re_storeL hl 0 rfl rfl rfl rfl rfl rfl rfl (by kernel_rfl) rfl ?_;intro S1 hl;refine zg ?_
  refine zc hl rfl (spec37 s (hG.keep hl.keep)) ?_;rintro v S1 hk1 rfl hl
  refine zg ?_
  constructor<;>intro h30
  ·
   refine zg ?_
   refine thn_ret (blk_ret (thn_ret (round_ret (blk_ret (thn_ret (scp_ret (y2 rfl rfl ⟨hl.keep,res2 (by rw[hck,←hin,drop_nth' hs,runE_1 h30])⟩)))))))
  refine zg ?_
  constructor<;>intro h33
  ·
   refine xp_exit rfl ?_;refine xg (by kernel_rfl) ?_;refine rr rfl (rd_bin rfl rfl rfl rfl) ?_;refine rm rfl ?_;refine re_end rfl ?_
   exact⟨C.length-(i+1),by omega,i+1,b,by omega,rfl,⟨rfl,congrArg some (congrArg (Value.int .i64) (IntWalk.i64_in _ (by omega))),rfl,rfl,trivial⟩,by rw[←runE_2 h30 h33,←drop_nth' hs];exact hin,hl.tail⟩
  refine xp_seq rfl (xe_toE hl 37 (.bool (s.last&&!b)) ?_ rfl ?_)
  ·
   refine zg ?_;refine re_bool (d:=40) rfl (fun h40=>?_) (fun h40=>?_)
   ·
    refine zg ?_;refine rr rfl (rd_un rfl rfl rfl) ?_;refine zg ?_
    exact⟨rfl,bl (by first|(simp[h40];done)|(simp only[h40,BLs])),by repeat (first|exact subL_refl _|refine subL_skip rfl ?_),hl⟩
   refine zg ?_
   exact⟨rfl,bl (by first|(simp[h40];done)|(simp only[h40,BLs])),by repeat (first|exact subL_refl _|refine subL_skip rfl ?_),hl⟩
  intro S1 hl
  refine zg ?_
  constructor<;>intro h37
  ·
   refine zg ?_
   refine blk_ret (thn_ret (blk_ret (thn_ret (round_ret (blk_ret (thn_ret (scp_ret (y2 rfl rfl ⟨hl.keep,res2 (by rw[hck,←hin,drop_nth' hs,runE_3 h30 h33 h37])⟩))))))))
  refine zg ?_
  constructor<;>intro h45
  ·
   refine xs (by kernel_rfl) ?_;refine rm rfl ?_;refine re_end rfl ?_;refine xp_exit rfl ?_;refine xg (by kernel_rfl) ?_;refine rr rfl (rd_bin rfl rfl rfl rfl) ?_;refine rm rfl ?_;refine re_end rfl ?_
   exact⟨C.length-(i+1),by omega,i+1,false,by omega,rfl,⟨rfl,congrArg some (congrArg (Value.int .i64) (IntWalk.i64_in _ (by omega))),rfl,rfl,trivial⟩,by rw[←runE_4 h30 h33 h37 h45,←drop_nth' hs];exact hin,hl.tail⟩
  refine xp_seq rfl (xe_toE hl 48 (.bool (!nextT (C.drop (i+1)))) ?_ rfl ?_)
  ·
   refine zg ?_;refine re_bool (d:=55) rfl (fun h55=>?_) (fun h55=>?_)
   ·
    refine zg ?_
    exact⟨rfl,bl (by rw[nextT_end (by have h:=(by simpa using h55:(i:Int)+1=C.length);omega)];rfl),by repeat (first|exact subL_refl _|refine subL_skip rfl ?_),hl⟩
   refine zg ?_
   have hlt2:i+1<C.length:=by have h:=(by simpa using h55:¬((i:Int)+1=C.length));omega
   obtain⟨s2,hs2⟩:=nth_some hlt2
   obtain⟨b2,o2,cs2,ha2,_,hrow2,htk2⟩:=hv.elem hs2
   refine zg ?_
   exact⟨rfl,bl (by rw[nextT_at hs2];rfl),by repeat (first|exact subL_refl _|refine subL_skip rfl ?_),hl⟩
  intro S1 hl
  refine zg ?_
  constructor<;>intro h48
  ·
   refine zg ?_
   refine blk_ret (thn_ret (blk_ret (thn_ret (round_ret (blk_ret (thn_ret (scp_ret (y2 rfl rfl ⟨hl.keep,res2 (by rw[hck,←hin,drop_nth' hs,runE_5 h30 h33 h37 h45 h48])⟩))))))))
  refine xp_skip rfl ?_;refine xg (by kernel_rfl) ?_;refine rm rfl ?_;refine re_end rfl ?_;refine xg (by kernel_rfl) ?_;refine rr rfl (rd_bin rfl rfl rfl rfl) ?_;refine rm rfl ?_;refine re_end rfl ?_
  exact⟨C.length-(i+1),by omega,i+1,true,by omega,rfl,⟨rfl,congrArg some (congrArg (Value.int .i64) (IntWalk.i64_in _ (by omega))),rfl,rfl,trivial⟩,by rw[←runE_6 h30 h33 h37 h45 h48,←drop_nth' hs];exact hin,hl.tail⟩
 refine zg ?_
 refine scp_ret (y2 rfl rfl ⟨hl.keep,res2 (by rw[hck,←hin,List.drop_eq_nil_of_le (by have:=of_decide_eq_false h20;omega)];rfl)⟩)
end Go.Proofs.YtmfphenhpkgidaaGreatDoor
namespace Go.Proofs.YtmfphenhpkgidaaGreatDoor
open Go.Cm Go
set_option maxRecDepth 100000
variable{S:St}
def tiedI(C:List Sg)(i:Int):Bool:=(decide (i≥0)&&decide (i<C.length))&&(match nth C i.toNat with
 |some s=>s.kind==4
 |none=>false)
theorem nth_none{α:Type}:∀{l:List α} {i:Nat},l.length≤i→nth l i=none
 | [],i,_=>by cases i<;>rfl
 |_::l,0,h=>by simp at h
 |_::l,i+1,h=>nth_none (l:=l) (i:=i) (by simpa using h)
theorem nextT_nth(C:List Sg)(i:Nat):nextT (C.drop i)=(match nth C i with
 |some s=>s.kind==4
 |none=>false):=by
 by_cases h:i<C.length
 ·obtain⟨s,hs⟩:=nth_some h
  rw[nextT_at hs,hs]
 rw[nextT_end (by omega),nth_none (by omega)]
theorem tied_next(C:List Sg)(i:Nat):tiedI C ((i:Int)+1)=nextT (C.drop (i+1)):=by
 unfold tiedI
 rw[show((i:Int)+1).toNat=i+1 from rfl,nextT_nth]
 by_cases h:i+1<C.length
 ·have h2:decide ((i:Int)+1<C.length)=true:=by rw[decide_eq_true_iff];omega
  have h1:decide ((i:Int)+1≥0)=true:=by rw[decide_eq_true_iff];omega
  rw[h1,h2];rfl
 have h2:decide ((i:Int)+1<C.length)=false:=by rw[decide_eq_false_iff_not];omega
 rw[h2,nth_none (by omega),Bool.and_false]
theorem tied_prev{C:List Sg}{i:Nat}(h:(!tiedI C ((i:Int)-1))=false):∃j,i=j+1∧∃s,nth C j=some s∧s.kind=4:=by
 unfold tiedI at h
 simp only[Bool.not_eq_false',Bool.and_eq_true,decide_eq_true_iff]at h
 obtain⟨⟨h1,h2⟩,h3⟩:=h
 refine⟨i-1,by omega,?_⟩
 rw[show((i:Int)-1).toNat=i-1 by omega]at h3
 split at h3
 ·rename_i s hs
  exact⟨s,hs,by simpa using h3⟩
 cases h3
theorem open_no{C:List Sg}{i:Nat}(h:(!tiedI C ((i:Int)-1))=true):openB C i=false:=by
 cases i with
 |zero=>rfl
 |succ j =>
  unfold tiedI at h
  rw[show(((j+1:Nat):Int)-1)=(j:Int) by omega,show((j:Int)).toNat=j from rfl]at h
  show(match nth C j with
   |some s=>(s.kind==4)&&!s.last
   |none=>false)=false
  cases hs:nth C j with
  |none=>rfl
  |some s =>
   rw[hs]at h
   have h2:decide ((j:Int)<C.length)=true:=by rw[decide_eq_true_iff];have:=nth_lt hs;omega
   have h1:decide ((j:Int)≥0)=true:=by rw[decide_eq_true_iff];omega
   rw[h1,h2]at h
   have h':(s.kind==4)=false:=by simpa using h
   simp only[h',Bool.false_and]
theorem open_at{C:List Sg}{j:Nat}{s:Sg}(h:nth C j=some s):openB C (j+1)=((s.kind==4)&&!s.last):=by
 show(match nth C j with
  |some s=>(s.kind==4)&&!s.last
  |none=>false)=_
 rw[h]
theorem open_last{C:List Sg}{j:Nat}{s:Sg}(h:nth C j=some s)(hk:s.kind=4):s.last=!openB C (j+1):=by
 rw[open_at h,hk];cases s.last<;>rfl
def OpenOk(C:List Sg)(i:Nat):Prop:=openB C i=true→∃s,nth C i=some s∧s.kind=4
theorem refE_skip{C:List Sg}{i:Nat}{s:Sg}{R:Int×Int}(hs:nth C i=some s)(h1:(one s !=0)=false)(h2:(s.kind !=4)=true)(ho:OpenOk C i)(hin:runE (openB C i) (C.drop i) i=R):runE (openB C (i+1)) (C.drop (i+1)) (i+1)=R∧OpenOk C (i+1):=by
 have h0:openB C i=false:=by
  cases h:openB C i with
  |false=>rfl
  |true =>
   obtain⟨s2,e1,e2⟩:=ho h
   rw[hs]at e1
   cases e1
   rw[e2]at h2
   cases h2
 have h3:openB C (i+1)=false:=by
  rw[open_at hs]
  have:(s.kind==4)=false:=by simpa using h2
  rw[this];rfl
 rw[h0,drop_nth' hs,runE_2 h1 h2]at hin
 rw[h3]
 exact⟨hin,fun h=>by rw[h3]at h;cases h⟩
theorem refE_bad{C:List Sg}{i:Nat}{s:Sg}(hs:nth C i=some s)(h1:(one s !=0)=false)(h2:(s.kind !=4)=false)(h3:((!openB C i&&s.last)||(!s.last&&!nextT (C.drop (i+1))))=true):runE (openB C i) (C.drop i) i=(3,(i:Int)):=by
 rw[drop_nth' hs]
 cases hl:s.last with
 |true=>exact runE_3 h1 h2 (by rw[hl]at h3 ⊢;simpa using h3)
 |false=>exact runE_5 h1 h2 (by rw[hl];rfl) hl (by rw[hl]at h3;simpa using h3)
theorem refE_go{C:List Sg}{i:Nat}{s:Sg}{R:Int×Int}(hs:nth C i=some s)(h1:(one s !=0)=false)(h2:(s.kind !=4)=false)(h3:((!openB C i&&s.last)||(!s.last&&!nextT (C.drop (i+1))))=false)(hin:runE (openB C i) (C.drop i) i=R):runE (openB C (i+1)) (C.drop (i+1)) (i+1)=R∧OpenOk C (i+1):=by
 rw[drop_nth' hs]at hin
 have hk:(s.kind==4)=true:=by simpa using h2
 cases hl:s.last with
 |true =>
  rw[runE_4 h1 h2 (by rw[hl]at h3 ⊢;simpa using h3) hl]at hin
  have h4:openB C (i+1)=false:=by rw[open_at hs,hl,Bool.not_true,Bool.and_false]
  rw[h4]
  exact⟨hin,fun h=>by rw[h4]at h;cases h⟩
 |false =>
  have h5:nextT (C.drop (i+1))=true:=by rw[hl]at h3;simpa using h3
  rw[runE_6 h1 h2 (by rw[hl];rfl) hl (by rw[h5];rfl)]at hin
  have h4:openB C (i+1)=true:=by rw[open_at hs,hl,hk];rfl
  rw[h4]
  refine⟨hin,fun _=>?_⟩
  rw[nextT_nth]at h5
  split at h5
  ·rename_i s2 hs2
   exact⟨s2,hs2,by simpa using h5⟩
  cases h5
noncomputable def c73:Code:=Tryz.f73.body.getD .skip
theorem spec73(a:Option Addr)(cap:Nat)(C:List Sg)(i:Int)(hv:Signs S (.slice a C.length cap) C):CC Tryz.prog KK 73 [.slice a C.length cap,.int .i64 i] S (fun v S'=>Keep S S'∧v= .bool (tiedI C i)):=by
 refine cc_enter (c:=c73) (n:=21) Tryz.func73 rfl rfl rfl (by kernel_rfl) rfl rfl ?_
 have hl:=Hold.start S
 refine zS ?_;refine xe_sub (L':=[(1,.int .i64 i),(0,.slice a C.length cap)]) ⟨rfl,rfl,trivial⟩ ?_;refine xp_seq rfl (xe_toE hl 4 (.bool (tiedI C i)) ?_ rfl ?_)
 ·
  refine zg ?_;refine re_bool (d:=7) rfl (fun h7=>?_) (fun h7=>?_)
  ·
   refine zg ?_;refine re_bool (d:=13) rfl (fun h13=>?_) (fun h13=>?_)
   ·
    refine zg ?_
    have h0:0≤i:=of_decide_eq_true h7
    have hlt:i.toNat<C.length:=by have:=of_decide_eq_true h13;omega
    obtain⟨s,hs⟩:=nth_some hlt
    obtain⟨b1,o1,cs1,ha,_,hrow,htk⟩:=hv.elem hs
    refine zg ?_
    exact⟨rfl,bl (by unfold tiedI;rw[h7,h13,hs];rfl),by repeat (first|exact subL_refl _|refine subL_skip rfl ?_),hl⟩
   refine zg ?_
   exact⟨rfl,bl (by unfold tiedI;rw[h7,h13];rfl),by repeat (first|exact subL_refl _|refine subL_skip rfl ?_),hl⟩
  refine zg ?_
  exact⟨rfl,bl (by unfold tiedI;rw[h7];rfl),by repeat (first|exact subL_refl _|refine subL_skip rfl ?_),hl⟩
 intro S1 hl
 refine zg ?_
 refine y1 rfl ⟨hl.keep,rfl⟩
noncomputable def c49:Code:=Tryz.f49.body.getD .skip
theorem spec49(nm:ByteArray)(a:Option Addr)(cap:Nat)(C:List Sg)(hnm:nm.data.toList.length≤1000)(hn:C.length≤1000)(hv:Signs S (.slice a C.length cap) C):CC Tryz.prog KK 49 [aggL [.string nm,.slice a C.length cap]] S (fun v S'=>Keep S S'∧v=tupV [.int .i64 (partE nm.data.toList C).1,.int .i64 (partE nm.data.toList C).2]):=by
 refine cc_enter (c:=c49) (n:=71) Tryz.func49 rfl rfl rfl (by kernel_rfl) rfl rfl ?_
 have hl:=Hold.start S
 refine zg ?_;refine re_boxL hl rfl rfl rfl rfl rfl rfl ?_;intro B1 S1 hl;refine zg ?_
 refine zc hl rfl (spec39 nm hnm) ?_;rintro v S1 hk1 rfl hl
 refine rr rfl (rd_un rfl rfl rfl) ?_;refine zg ?_
 constructor<;>intro h11
 ·
  refine zg ?_
  exact(z2 rfl rfl ⟨hl.keep,res2 (by unfold partE;rw[h11];rfl)⟩)
 refine zg ?_
 constructor<;>intro h15
 ·
  refine zg ?_
  exact(z2 rfl rfl ⟨hl.keep,res2 (by unfold partE;rw[h11,h15];rfl)⟩)
 refine xp_skip rfl ?_;refine xp_seq rfl ?_;refine zS ?_;refine xp_block rfl ?_
 -- LOOP
 have hck:partE nm.data.toList C=runE false C 0:=by unfold partE;rw[h11,h15];rfl
 refine xe_sub (L':=[(4,.int .i64 0),(1,ptrTo B1 0)]) ⟨rfl,rfl,trivial⟩ ?_
 refine xp_loop rfl (fun m Le S'=>∃i:Nat,i≤C.length∧m=C.length-i∧SubE [(4,.int .i64 (i:Int)),(1,ptrTo B1 0)] Le∧runE (openB C i) (C.drop i) i=runE false C 0∧OpenOk C i∧Hold S [S] S' [(B1,.cells [.string nm,.slice a C.length cap] 44 false true [])]) ?_ (m:=C.length) ⟨0,by omega,rfl,⟨rfl,rfl,trivial⟩,rfl,(fun h=>by cases h),hl⟩
 clear hl;rintro m Le S' ⟨i,hi,rfl,hsub,hin,hok,hl⟩;refine xe_sub hsub ?_
 refine zg ?_
 constructor<;>intro h20
 ·
  have hlt:i<C.length:=by have:=of_decide_eq_true h20;omega
  obtain⟨s,hs⟩:=nth_some hlt
  obtain⟨b1,o1,cs1,ha,_,hrow,htk⟩:=hv.elem hs
  refine zg ?_;refine re_allocL hl rfl rfl rfl rfl rfl (z:=[.int .i64 0,.int .i64 0,.int .i64 0,.int .i64 0,.bool false,.int .i64 0,.bool false,.bool false,.int .i64 0,.int .i64 0,.int .i64 0,.int .i64 0,.bool false,.int .i64 0,.int .i64 0,.int .i64 0,.int .i64 0]) (by kernel_rfl) ?_;intro B5 S5 hl;refine re_storeL hl 0 rfl rfl rfl rfl rfl rfl rfl (by kernel_rfl) rfl ?_;intro S1 hl;refine zg ?_
  refine zc hl rfl (spec69 s) ?_;rintro v S1 hk1 rfl hl
  refine zg ?_
  constructor<;>intro h31
  ·
   refine zg ?_
   refine thn_ret (blk_ret (thn_ret (round_ret (blk_ret ((z2 rfl rfl ⟨hl.keep,res2 (by rw[hck,←hin,drop_nth' hs,runE_1 h31])⟩))))))
  refine zg ?_
  constructor<;>intro h36
  ·
   refine xp_exit rfl ?_;refine xg (by kernel_rfl) ?_;refine rm rfl ?_;refine rr rfl (rd_bin rfl rfl rfl rfl) ?_;refine rm rfl ?_;refine re_end rfl ?_
   exact⟨C.length-(i+1),by omega,i+1,by omega,rfl,⟨congrArg some (congrArg (Value.int .i64) (IntWalk.i64_in _ (by omega))),rfl,trivial⟩,(refE_skip hs h31 h36 hok hin).1,(refE_skip hs h31 h36 hok hin).2,hl.tail⟩
  refine xp_skip rfl ?_;refine xp_seq rfl (xe_toE hl 7 (.bool (!openB C i)) ?_ rfl ?_)
  ·
   refine zg ?_
   refine zc hl rfl (spec73 a cap C ((i:Int)-1) (hv.move (hl.since 0 rfl))) ?_;rintro v S1 hk1 rfl hl
   refine rr rfl (rd_un rfl rfl rfl) ?_;refine zg ?_;refine re_bool (d:=43) rfl (fun h43=>?_) (fun h43=>?_)
   ·
    refine zg ?_
    exact⟨rfl,bl (by rw[open_no h43];rfl),by repeat (first|exact subL_refl _|refine subL_skip rfl ?_),hl⟩
   obtain⟨j,rfl,s1,hs1,hk1⟩:=tied_prev h43
   obtain⟨b3,o3,cs3,ha3,_,hrow3,htk3⟩:=hv.elem hs1
   refine rr rfl (rd_fieldAddr rfl rfl (fa Tryz.underlying44 az44 rfl)) ?_;refine rr rfl (rl hl 1 rfl rfl (by kernel_rfl) rfl rfl) ?_;refine rm rfl ?_;refine rr rfl (rd_bin rfl rfl rfl (congrArg some (congrArg (Value.int .i64) ((IntWalk.i64_in _ (by omega)).trans (show(((j+1:Nat):Int)-1)=(j:Int) by omega))))) ?_;refine zA ?_
   exact⟨rfl,bl (open_last hs1 hk1),by repeat (first|exact subL_refl _|refine subL_skip rfl ?_),hl⟩
  intro S1 hl
  refine xp_seq rfl (xe_toE hl 69 (.bool ((!openB C i&&s.last)||(!s.last&&!nextT (C.drop (i+1))))) ?_ rfl ?_)
  ·
   refine zg ?_;refine re_bool (d:=53) rfl (fun h53=>?_) (fun h53=>?_)
   ·
    refine zg ?_;refine re_bool (d:=57) rfl (fun h57=>?_) (fun h57=>?_)
    ·
     refine zg ?_
     exact⟨rfl,bl (by first|(simp[h57,h53];done)|(rw[tied_next];simp[h57,h53];done)|(revert h57 h53;cases s.last<;>cases openB C i<;>simp)),by repeat (first|exact subL_refl _|refine subL_skip rfl ?_),hl⟩
    refine zg ?_;refine rr rfl (rd_un rfl rfl rfl) ?_;refine zg ?_;refine re_bool (d:=61) rfl (fun h61=>?_) (fun h61=>?_)
    ·
     refine zg ?_
     refine zc hl rfl (spec73 a cap C ((i:Int)+1) (hv.move (hl.since 0 rfl))) ?_;rintro v S1 hk1 rfl hl
     refine rr rfl (rd_un rfl rfl rfl) ?_;refine zg ?_
     exact⟨rfl,bl (by first|(simp[h57,h53];done)|(rw[tied_next];simp[h57,h53];done)|(revert h61 h57 h53;cases s.last<;>cases openB C i<;>simp)),by repeat (first|exact subL_refl _|refine subL_skip rfl ?_),hl⟩
    refine zg ?_
    exact⟨rfl,bl (by first|(simp[h57,h53];done)|(rw[tied_next];simp[h61,h57,h53];done)|(revert h61 h57 h53;cases s.last<;>cases openB C i<;>simp)),by repeat (first|exact subL_refl _|refine subL_skip rfl ?_),hl⟩
   refine zg ?_;refine rr rfl (rd_un rfl rfl rfl) ?_;refine zg ?_;refine re_bool (d:=61) rfl (fun h61=>?_) (fun h61=>?_)
   ·
    refine zg ?_
    refine zc hl rfl (spec73 a cap C ((i:Int)+1) (hv.move (hl.since 0 rfl))) ?_;rintro v S1 hk1 rfl hl
    refine rr rfl (rd_un rfl rfl rfl) ?_;refine zg ?_
    exact⟨rfl,bl (by first|(simp[h61,h53];done)|(rw[tied_next];simp[h61,h53];done)|(revert h61 h53;cases s.last<;>cases openB C i<;>simp)),by repeat (first|exact subL_refl _|refine subL_skip rfl ?_),hl⟩
   refine zg ?_
   exact⟨rfl,bl (by first|(simp[h61,h53];done)|(rw[tied_next];simp[h61,h53];done)|(revert h61 h53;cases s.last<;>cases openB C i<;>simp)),by repeat (first|exact subL_refl _|refine subL_skip rfl ?_),hl⟩
  intro S1 hl
  refine zg ?_
  constructor<;>intro h69
  ·
   refine zg ?_
   refine blk_ret (thn_ret (round_ret (blk_ret ((z2 rfl rfl ⟨hl.keep,res2 (by rw[hck,←hin,refE_bad hs h31 h36 h69])⟩)))))
  refine xp_skip rfl ?_;refine xg (by kernel_rfl) ?_;refine rm rfl ?_;refine rr rfl (rd_bin rfl rfl rfl rfl) ?_;refine rm rfl ?_;refine re_end rfl ?_
  exact⟨C.length-(i+1),by omega,i+1,by omega,rfl,⟨congrArg some (congrArg (Value.int .i64) (IntWalk.i64_in _ (by omega))),rfl,trivial⟩,(refE_go hs h31 h36 h69 hin).1,(refE_go hs h31 h36 h69 hin).2,hl.tail⟩
 refine zg ?_
 refine y2 rfl rfl ⟨hl.keep,res2 (by rw[hck,←hin,List.drop_eq_nil_of_le (by have:=of_decide_eq_false h20;omega)];rfl)⟩
end Go.Proofs.YtmfphenhpkgidaaGreatDoor
namespace Go.Proofs.YtmfphenhpkgidaaGreatDoor
open Go.Cm Go
set_option maxRecDepth 100000
variable{S:St}
def bareS(s:Sg):Sg:={kind:=s.kind,value:=0,place:=s.place,acc:=s.acc,color:=s.color,stem:=s.stem,oblique:=s.oblique,last:=s.last,mx:=0,md:=0,tm:=0,pr:=0,stroke:=false,n:=0,d:=0,step:=0,line:=0}
def fieldsE(s:Sg)(last:Bool):Int :=
 bif s.kind !=4 then 8 else bif decide (s.place< -4)||decide (s.place>12)then 2 else bif decide (s.acc< -1)||decide (s.acc>2)then 2
 else bif decide (s.stem<0)||decide (s.stem>3)then 2 else bif (!(s.last==last))||!decide (bareS s=s)then 3 else 0
def zSg:Sg:=⟨0,0,0,0,false,0,false,false,0,0,0,0,false,0,0,0,0⟩
def sgI(C:List Sg)(k:Int):Sg:=match nth C k.toNat with
 |some s=>s
 |none=>zSg
theorem sgI_nth{C:List Sg}{k:Int}{s:Sg}(h:nth C k.toNat=some s):sgI C k=s:=by unfold sgI;rw[h]
theorem sgI_at{C:List Sg}{i:Nat}{s:Sg}(h:nth C i=some s):sgI C (i:Int)=s:=sgI_nth (k:=(i:Int)) h
theorem Signs.row{S:St}{a:Option Addr}{len cap:Nat}{C:List Sg}(h:Signs S (.slice a len cap) C)(hne:0<C.length) :
  ∃b o cs,a=some ⟨b,o,none⟩∧RowAt S b 55 cs∧∀k:Int,0≤k→k<C.length→takeN 17 (dropN (o+k.toNat*17) cs)=some (sgI C k).cells:=by
 obtain⟨x,hx⟩:=nth_some hne
 obtain⟨b,o,cs,h1,_,h3,_⟩:=h.elem hx
 refine⟨b,o,cs,h1,h3,fun k hk hk2=>?_⟩
 obtain⟨y,hy⟩:=nth_some (show k.toNat<C.length by omega)
 obtain⟨b',o',cs',h1',_,h3',h4'⟩:=h.elem hy
 cases h1.symm.trans h1'
 obtain⟨_,own,kin,g⟩:=h3
 obtain⟨_,own',kin',g'⟩:=h3'
 rw[g]at g'
 cases g'
 rw[sgI_nth hy]
 exact h4'
def shapedB(C:List Sg)(k:Int):Bool :=
 bif decide (k>0)&&(((sgI C k).stem==1)||((sgI C k).stem==2))then false
 else bif (sgI C k).oblique&&((k+1==(C.length:Int))||decide ((sgI C (k+1)).place≥(sgI C k).place)||(sgI C (k+1)).oblique)then false
 else bif decide (k>0)&&((sgI C (k-1)).place==(sgI C k).place)then false
 else !(decide (k<2)&&((sgI C k).stem==3)&&((sgI C 0).stem==1))
def fieldsAt(C:List Sg)(k:Int):Int:=fieldsE (sgI C k) (k+1==(C.length:Int))
def ligE1(C:List Sg)(k:Int):Int:=bif fieldsAt C k !=0 then fieldsAt C k else bif !shapedB C k then 3 else 0
def ligE:Nat→List Sg→Nat→Int×Int
 |0,_,_=>(0,0)
 |n+1,C,i=>bif ligE1 C i !=0 then(ligE1 C i,(i:Int))else ligE n C (i+1)
def ligB(C:List Sg):Bool:=decide ((C.length:Int)<2)||decide ((C.length:Int)>12)
def ligCheck(C:List Sg):Int×Int:=bif ligB C then(11,0)else ligE C.length C 0
theorem ligE_no{n i:Nat}{C:List Sg}(h:ligE1 C i≠0):ligE (n+1) C i=(ligE1 C i,(i:Int)):=by
 rw[ligE,show(ligE1 C i !=0)=true by simpa using h];rfl
theorem ligE_go{n i:Nat}{C:List Sg}(h:ligE1 C i=0):ligE (n+1) C i=ligE n C (i+1):=by
 rw[ligE,h];rfl
def rule1(C:List Sg)(k:Int):Int:=bif (sgI C k).stem==3 then 2 else 0
def rule2(C:List Sg)(k:Int):Int:=bif decide (k<2)&&((sgI C 0).stem==1)then 4 else 0
def rule3(C:List Sg)(k:Int):Int:=bif decide (k>0)then 0 else bif decide ((sgI C 1).place<(sgI C 0).place)==((sgI C 0).stem==2)then 3 else 2
def rule4(C:List Sg)(k:Int):Int:=bif (k+1==(C.length:Int))&&!(sgI C (k-1)).oblique&&decide ((sgI C k).place<(sgI C (k-1)).place)then 2 else 0
def ligValue(C:List Sg)(k:Int):Int :=
 bif rule1 C k !=0 then rule1 C k else bif rule2 C k !=0 then rule2 C k else bif rule3 C k !=0 then rule3 C k else bif rule4 C k !=0 then rule4 C k else 3
def ligValues(C:List Sg):List Int:=(List.range' 0 C.length).map fun i=>ligValue C (i:Nat)
def classI(k:Int):Int:=bif decide (k<1)||decide (k>12)then 0 else bif (k==1)||(k==2)||(k==4)then 1 else bif k==3 then 2 else bif (k==5)||(k==6)||(k==9)||(k==10)then 3 else 4
structure Bk where
 kind:Int
 frm:Int
 upto:Int
instance:DecidableEq Bk:=fun a b=>decidable_of_iff (a.kind=b.kind∧a.frm=b.frm∧a.upto=b.upto) ⟨fun h=>by cases a;cases b;rw[Bk.mk.injEq];exact h,fun h=>by subst h;simp⟩
def Bk.cells(b:Bk):List Value:=[.int .i64 b.kind,.int .i64 b.frm,.int .i64 b.upto]
def Bk.v(b:Bk):Value:=aggL b.cells
end Go.Proofs.YtmfphenhpkgidaaGreatDoor
namespace Go.Proofs.YtmfphenhpkgidaaGreatDoor
open Go.Cm Go
set_option maxRecDepth 100000
variable{S:St}
def classL:List Value:=[.int .i64 0,.int .i64 1,.int .i64 1,.int .i64 2,.int .i64 1,.int .i64 3,.int .i64 3,.int .i64 4,.int .i64 4,.int .i64 3,.int .i64 3,.int .i64 4,.int .i64 4]
def Gc(S:St):Prop:=1<S.size∧S.get 1=some (.cells classL 0 false false [])
theorem Gc.keep{S T:St}(h:Gc S)(k:Keep S T):Gc T:=⟨Nat.lt_of_lt_of_le h.1 k.1,(k.2 1 h.1).trans h.2⟩
end Go.Proofs.YtmfphenhpkgidaaGreatDoor
namespace Go.Proofs.YtmfphenhpkgidaaGreatDoor
open Go.Cm Go
set_option maxRecDepth 100000
variable{S:St}
end Go.Proofs.YtmfphenhpkgidaaGreatDoor
namespace Go.Proofs.YtmfphenhpkgidaaGreatDoor
open Go.Cm Go
set_option maxRecDepth 100000
variable{S:St}
def iv(x:Int):Value:= .int .i64 x
def Ints(S:St)(v:Value)(l:List Int):Prop:=SliceAt S 3 1 v (l.map fun x=>[iv x])
theorem Ints.move{S S':St}(h:RK S S'){v:Value}{l:List Int}(hs:Ints S v l):Ints S' v l:=SliceAt.move h hs
theorem Ints.is{S:St}{v:Value}{l:List Int}(h:Ints S v l):∃a cap,v= .slice a l.length cap:=by
 obtain⟨a,cap,e⟩:=SliceAt.is h
 exact⟨a,cap,by simpa using e⟩
theorem Ints.elem{S:St}{a:Option Addr}{len cap:Nat}{l:List Int}(h:Ints S (.slice a len cap) l){k:Nat}{x:Int}(hk:nth l k=some x) :
  ∃b o cs,a=some ⟨b,o,none⟩∧len=l.length∧RowAt S b 3 cs∧takeN 1 (dropN (o+k*1) cs)=some [iv x]:=by
 obtain⟨b,o,cs,h1,h2,h3,h4⟩:=SliceAt.elem h (nth_map (fun x=>[iv x]) hk)
 exact⟨b,o,cs,h1,by simpa using h2,h3,h4⟩
def GrowI(S0 S:St)(v:Value)(l:List Int):Prop:=Grow S0 S ⟨v,3,1,l.map iv,l.length⟩
end Go.Proofs.YtmfphenhpkgidaaGreatDoor
namespace Go.Proofs.YtmfphenhpkgidaaGreatDoor
open Go.Cm Go
set_option maxRecDepth 100000
variable{S:St}
end Go.Proofs.YtmfphenhpkgidaaGreatDoor
namespace Go.Proofs.YtmfphenhpkgidaaGreatDoor
open Go.Cm Go
set_option maxRecDepth 100000
variable{S:St}
end Go.Proofs.YtmfphenhpkgidaaGreatDoor
namespace Go.Proofs.YtmfphenhpkgidaaGreatDoor
open Go.Cm Go
set_option maxRecDepth 100000
variable{S:St}
theorem lig_two{C:List Sg}(h:(ligCheck C).1=0):2≤C.length:=by
 cases hb:ligB C with
 |true=>unfold ligCheck at h;rw[hb]at h;cases h
 |false=>unfold ligB at hb;simp at hb;omega
theorem ligValues_len(C:List Sg):(ligValues C).length=C.length:=by unfold ligValues;simp
end Go.Proofs.YtmfphenhpkgidaaGreatDoor
namespace Go.Proofs.YtmfphenhpkgidaaGreatDoor
open Go.Cm Go
set_option maxRecDepth 100000
variable{S:St}
theorem class_none{k:Int}(h5:((k==1)||((k==2)||(k==4)))=false)(h9:(k==3)=false)(h11:((k==5)||((k==6)||((k==9)||(k==10))))=false)(h16:((k==7)||((k==8)||((k==11)||(k==12))))=false) :
  tupV [.int .i64 0,.int .i64 8]=tupV [.int .i64 (classI k),.int .i64 (bif decide (k<1)||decide (k>12)then 8 else 0)]:=by
 have e:(decide (k<1)||decide (k>12))=true:=by
  simp at h5 h9 h11 h16
  by_cases h1:1≤k
  ·by_cases h2:k≤12
   ·rcases kind_cases h1 h2 with rfl|rfl|rfl|rfl|rfl|rfl|rfl|rfl|rfl|rfl|rfl|rfl<;>simp at h5 h9 h11 h16
   simp;omega
  simp;omega
 unfold classI
 rw[e]
 rfl
noncomputable def c176:Code:=Tryz.f176.body.getD .skip
theorem spec176(k:Int):CC Tryz.prog KK 176 [.int .i64 k] S (fun v S'=>Keep S S'∧v=tupV [.int .i64 (classI k),.int .i64 (bif decide (k<1)||decide (k>12)then 8 else 0)]):=by
 refine cc_enter (c:=c176) (n:=21) Tryz.func176 rfl rfl rfl (by kernel_rfl) rfl rfl ?_
 have hl:=Hold.start S
 refine zS ?_;refine xp_seq rfl ?_;refine zS ?_;refine xp_block rfl ?_;refine xp_seq rfl (xe_toE hl 5 (.bool ((k==1)||((k==2)||(k==4)))) ?_ rfl ?_)
 ·
  refine zg ?_
  constructor<;>intro h5
  ·
   refine zg ?_
   exact⟨rfl,bl (by first|(simp[h5];done)|(simp only[h5,BLs])),by repeat (first|exact subL_refl _|refine subL_skip rfl ?_),hl⟩
  refine zg ?_
  constructor<;>intro h1005
  ·
   refine zg ?_
   exact⟨rfl,bl (by first|(simp[h1005,h5];done)|(simp only[h1005,h5,BLs])),by repeat (first|exact subL_refl _|refine subL_skip rfl ?_),hl⟩
  refine zg ?_
  exact⟨rfl,bl (by first|(simp[h1005,h5];done)|(simp only[h1005,h5,BLs])),by repeat (first|exact subL_refl _|refine subL_skip rfl ?_),hl⟩
 intro S1 hl
 refine zg ?_
 constructor<;>intro h5
 ·
  refine zg ?_
  refine blk_ret ((z2 rfl rfl ⟨hl.keep,by rcases(show k=1∨k=2∨k=4 by simpa using h5)with rfl|rfl|rfl<;>rfl⟩))
 refine zg ?_
 constructor<;>intro h9
 ·
  refine zg ?_
  refine blk_ret ((z2 rfl rfl ⟨hl.keep,by obtain rfl:k=3:=(by simpa using h9);rfl⟩))
 refine xp_seq rfl (xe_toE hl 11 (.bool ((k==5)||((k==6)||((k==9)||(k==10))))) ?_ rfl ?_)
 ·
  refine zg ?_
  constructor<;>intro h11
  ·
   refine zg ?_
   exact⟨rfl,bl (by first|(simp[h11];done)|(simp only[h11,BLs])),by repeat (first|exact subL_refl _|refine subL_skip rfl ?_),hl⟩
  refine zg ?_
  constructor<;>intro h1011
  ·
   refine zg ?_
   exact⟨rfl,bl (by first|(simp[h1011,h11];done)|(simp only[h1011,h11,BLs])),by repeat (first|exact subL_refl _|refine subL_skip rfl ?_),hl⟩
  refine zg ?_
  constructor<;>intro h2011
  ·
   refine zg ?_
   exact⟨rfl,bl (by first|(simp[h2011,h1011,h11];done)|(simp only[h2011,h1011,h11,BLs])),by repeat (first|exact subL_refl _|refine subL_skip rfl ?_),hl⟩
  refine zg ?_
  exact⟨rfl,bl (by first|(simp[h2011,h1011,h11];done)|(simp only[h2011,h1011,h11,BLs])),by repeat (first|exact subL_refl _|refine subL_skip rfl ?_),hl⟩
 intro S1 hl
 refine zg ?_
 constructor<;>intro h11
 ·
  refine zg ?_
  refine blk_ret ((z2 rfl rfl ⟨hl.keep,by rcases(show k=5∨k=6∨k=9∨k=10 by simpa using h11)with rfl|rfl|rfl|rfl<;>rfl⟩))
 refine xp_seq rfl (xe_toE hl 16 (.bool ((k==7)||((k==8)||((k==11)||(k==12))))) ?_ rfl ?_)
 ·
  refine zg ?_
  constructor<;>intro h16
  ·
   refine zg ?_
   exact⟨rfl,bl (by first|(simp[h16];done)|(simp only[h16,BLs])),by repeat (first|exact subL_refl _|refine subL_skip rfl ?_),hl⟩
  refine zg ?_
  constructor<;>intro h1016
  ·
   refine zg ?_
   exact⟨rfl,bl (by first|(simp[h1016,h16];done)|(simp only[h1016,h16,BLs])),by repeat (first|exact subL_refl _|refine subL_skip rfl ?_),hl⟩
  refine zg ?_
  constructor<;>intro h2016
  ·
   refine zg ?_
   exact⟨rfl,bl (by first|(simp[h2016,h1016,h16];done)|(simp only[h2016,h1016,h16,BLs])),by repeat (first|exact subL_refl _|refine subL_skip rfl ?_),hl⟩
  refine zg ?_
  exact⟨rfl,bl (by first|(simp[h2016,h1016,h16];done)|(simp only[h2016,h1016,h16,BLs])),by repeat (first|exact subL_refl _|refine subL_skip rfl ?_),hl⟩
 intro S1 hl
 refine zg ?_
 constructor<;>intro h16
 ·
  refine zg ?_
  refine blk_ret ((z2 rfl rfl ⟨hl.keep,by rcases(show k=7∨k=8∨k=11∨k=12 by simpa using h16)with rfl|rfl|rfl|rfl<;>rfl⟩))
 refine zg ?_
 refine y2 rfl rfl ⟨hl.keep,class_none h5 h9 h11 h16⟩
noncomputable def c141:Code:=Tryz.f141.body.getD .skip
theorem spec141(s:Sg):CC Tryz.prog KK 141 [s.v] S (fun v S'=>Keep S S'∧v= .int .i64 (classI s.kind)):=by
 refine cc_enter (c:=c141) (n:=12) Tryz.func141 rfl rfl rfl (by kernel_rfl) rfl rfl ?_
 have hl:=Hold.start S
 refine zg ?_;refine re_boxL hl rfl rfl rfl rfl rfl rfl ?_;intro B1 S1 hl;refine zg ?_
 refine zc hl rfl (spec176 _) ?_;rintro v S1 hk1 rfl hl
 refine zg ?_
 refine y1 rfl ⟨hl.keep,rfl⟩
noncomputable def c269:Code:=Tryz.f269.body.getD .skip
theorem spec269(s:Sg):CC Tryz.prog KK 269 [s.v] S (fun v S'=>Keep S S'∧v=(bareS s).v):=by
 refine cc_enter (c:=c269) (n:=18) Tryz.func269 rfl rfl rfl (by kernel_rfl) rfl rfl ?_
 have hl:=Hold.start S
 refine zg ?_;refine re_boxL hl rfl rfl rfl rfl rfl rfl ?_;intro B1 S1 hl;refine re_allocL hl rfl rfl rfl rfl rfl (z:=[.int .i64 0,.int .i64 0,.int .i64 0,.int .i64 0,.bool false,.int .i64 0,.bool false,.bool false,.int .i64 0,.int .i64 0,.int .i64 0,.int .i64 0,.bool false,.int .i64 0,.int .i64 0,.int .i64 0,.int .i64 0]) (by kernel_rfl) ?_;intro B2 S2 hl;refine zg ?_;refine rr rfl (rd_build rfl rfl (v:=(bareS s).v) (by rfl)) ?_;refine re_storeL hl 0 rfl rfl rfl rfl rfl rfl rfl (by kernel_rfl) rfl ?_;intro S1 hl;refine zg ?_
 refine done_ret (ress_cell rfl (loadN_of (z:=17) (by kernel_rfl) (by kernel_rfl) (hl.get 0 rfl) rfl) rfl) ⟨hl.keep,rfl⟩
end Go.Proofs.YtmfphenhpkgidaaGreatDoor
namespace Go.Proofs.YtmfphenhpkgidaaGreatDoor
open Go.Cm Go
set_option maxRecDepth 100000
variable{S:St}
theorem stays_len{n:Nat}{e:CkE}{S':St}{t:TypeId}{x:Operand}{u:Value}(hop:e.op= .call ⟨.builtin .len, #[x], #[t]⟩)(hx:evE e.L x=some u)(hv:lenV Tryz.prog t u S'=some e.v)(hs:sameV 100000 e.v e.v=true)(hf:e.fr=none):StayOne Tryz.prog n S' e:=by
 unfold StayOne
 rw[hf]
 exact⟨fun a ha=>by rw[hop];show lenV Tryz.prog t (a.ev x) S'=_;rw[ha.ev hx,hv],hs⟩
def noteE(C:List Sg)(k:Int):Int:=bif (sgI C k).kind !=4 then 8 else bif (decide ((sgI C k).place< -4)||decide ((sgI C k).place>12))||((decide ((sgI C k).acc< -1)||decide ((sgI C k).acc>2))||(decide ((sgI C k).stem<0)||decide ((sgI C k).stem>3)))then 2 else bif (!((sgI C k).last==(k==(C.length:Int)-1)))||!decide (sgI C k=bareS (sgI C k))then 3 else bif decide (k>0)&&(((sgI C k).stem==1)||((sgI C k).stem==2))then 3 else bif (sgI C k).oblique&&((k==(C.length:Int)-1)||decide ((sgI C (k+1)).place≥(sgI C k).place)||(sgI C (k+1)).oblique)then 3 else bif decide (k>0)&&((sgI C k).place==(sgI C (k-1)).place)then 3 else bif (k==1)&&((sgI C k).stem==3)&&((sgI C 0).stem==1)then 3 else 0
theorem note_eq{C:List Sg}{k:Int}(k0:0≤k):noteE C k=ligE1 C k:=by
 have e1:(k==(C.length:Int)-1)=(k+1==(C.length:Int)):=by rw[Bool.eq_iff_iff];simp;omega
 have e2:decide (sgI C k=bareS (sgI C k))=decide (bareS (sgI C k)=sgI C k):=by simp only[eq_comm]
 have e3:((sgI C k).place==(sgI C (k-1)).place)=((sgI C (k-1)).place==(sgI C k).place):=by rw[Bool.eq_iff_iff];simp;omega
 have e4:(decide (k<2)&&((sgI C k).stem==3)&&((sgI C 0).stem==1))=((k==1)&&((sgI C k).stem==3)&&((sgI C 0).stem==1)):=by
  by_cases hk:k=0
  ·subst hk
   by_cases hs:(sgI C 0).stem=3
   ·rw[hs];rfl
   rw[show((sgI C 0).stem==3)=false by simpa using hs];rfl
  rw[show decide (k<2)=(k==1) by rw[Bool.eq_iff_iff];simp;omega]
 unfold noteE ligE1 fieldsAt fieldsE shapedB
 rw[e1,e2,e3,e4]
 generalize ((sgI C k).kind !=4)=A
 generalize (decide ((sgI C k).place< -4)||decide ((sgI C k).place>12))=B1
 generalize (decide ((sgI C k).acc< -1)||decide ((sgI C k).acc>2))=B2
 generalize (decide ((sgI C k).stem<0)||decide ((sgI C k).stem>3))=B3
 generalize ((!((sgI C k).last==(k+1==(C.length:Int))))||!decide (bareS (sgI C k)=sgI C k))=C1
 generalize (decide (k>0)&&(((sgI C k).stem==1)||((sgI C k).stem==2)))=D
 generalize ((sgI C k).oblique&&((k+1==(C.length:Int))||decide ((sgI C (k+1)).place≥(sgI C k).place)||(sgI C (k+1)).oblique))=E
 generalize (decide (k>0)&&((sgI C (k-1)).place==(sgI C k).place))=Fb
 generalize ((k==1)&&((sgI C k).stem==3)&&((sgI C 0).stem==1))=Gb
 (cases A<;>first|rfl|(cases B1<;>first|rfl|(cases B2<;>first|rfl|(cases B3<;>first|rfl|(cases C1<;>first|rfl|(cases D<;>first|rfl|(cases E<;>first|rfl|(cases Fb<;>first|rfl|(cases Gb<;>first|rfl|rfl)))))))))
noncomputable def c217:Code:=Tryz.f217.body.getD .skip
theorem spec217(a:Option Addr)(cap:Nat)(C:List Sg)(k:Int)(hn:C.length≤1000)(k0:0≤k)(k1:k<C.length)(hv:Signs S (.slice a C.length cap) C):CC Tryz.prog KK 217 [.slice a C.length cap,.int .i64 k] S (fun v S'=>Keep S S'∧v= .int .i64 (noteE C k)):=by
 refine cc_enter (c:=c217) (n:=125) Tryz.func217 rfl rfl rfl (by kernel_rfl) rfl rfl ?_
 have hl:=Hold.start S
 obtain⟨b,o,cs,rfl,hrow,hall⟩:=hv.row (by omega)
 refine xs (by kernel_rfl) ?_;refine rm rfl ?_;refine re_end rfl ?_;refine xs (by kernel_rfl) ?_;iterate 2 refine rm rfl ?_
 refine rr rfl (rd_indexAddr rfl rfl rfl (indexAddr_slice (z:=17) Tryz.underlying42 (by kernel_rfl) ⟨by first|omega|(simp at *;omega),by first|omega|(simp at *;omega)⟩)) ?_;refine rr rfl (rd_load rfl rfl (loadN_row (z:=17) (by kernel_rfl) (by kernel_rfl) (row_move (hl.since 0 rfl) hrow) (hall _ (by first|omega|(simp at *;omega)) (by first|omega|(simp at *;omega))))) ?_
 refine re_allocL hl rfl rfl rfl rfl rfl (z:=[.int .i64 0,.int .i64 0,.int .i64 0,.int .i64 0,.bool false,.int .i64 0,.bool false,.bool false,.int .i64 0,.int .i64 0,.int .i64 0,.int .i64 0,.bool false,.int .i64 0,.int .i64 0,.int .i64 0,.int .i64 0]) (by kernel_rfl) ?_;intro B5 S5 hl;refine re_storeL hl 0 rfl rfl rfl rfl rfl rfl rfl (by kernel_rfl) rfl ?_;intro S1 hl;refine re_end rfl ?_;refine xp_seq rfl ?_;refine xp_block rfl ?_;refine xs (by kernel_rfl) ?_;refine rr rfl (rd_fieldAddr rfl rfl (fa Tryz.underlying55 az55 rfl)) ?_
 refine rr rfl (rl hl 0 rfl rfl (by kernel_rfl) rfl rfl) ?_;refine rr rfl (rd_bin rfl rfl rfl rfl) ?_;refine rm rfl ?_;refine re_end rfl ?_;refine xp_cond rfl rfl (fun h10=>?_) (fun h10=>?_)
 ·
  refine xs (by kernel_rfl) ?_;refine rm rfl ?_;refine re_end rfl ?_;refine xp_ret rfl ?_
  refine blk_ret (thn_ret (done_ret (ress_tmp rfl rfl) ⟨hl.keep,congrArg (Value.int .i64) (by unfold noteE;rw[h10];rfl)⟩))
 refine xp_seq rfl (xe_toE hl 14 (.bool ((decide ((sgI C k).place< -4)||decide ((sgI C k).place>12))||((decide ((sgI C k).acc< -1)||decide ((sgI C k).acc>2))||(decide ((sgI C k).stem<0)||decide ((sgI C k).stem>3))))) ?_ rfl ?_)
 ·
  refine xs (by kernel_rfl) ?_;refine rr rfl (rd_fieldAddr rfl rfl (fa Tryz.underlying55 az55 rfl)) ?_;refine rr rfl (rl hl 0 rfl rfl (by kernel_rfl) rfl rfl) ?_;refine rr rfl (rd_bin rfl rfl rfl rfl) ?_;refine rm rfl ?_;refine re_bool (d:=18) rfl (fun h18=>?_) (fun h18=>?_)
  ·
   iterate 3 refine rz rfl ?_
   iterate 2 refine rm rfl ?_
   refine re_end rfl ?_;refine xp_cond_t rfl rfl ?_;refine xp_skip rfl ?_
   exact⟨rfl,bl (by first|(simp[h18];done)|(simp only[h18,BLs])),by repeat (first|exact subL_refl _|refine subL_skip rfl ?_),hl⟩
  refine rr rfl (rd_fieldAddr rfl rfl (fa Tryz.underlying55 az55 rfl)) ?_;refine rr rfl (rl hl 0 rfl rfl (by kernel_rfl) rfl rfl) ?_;refine rr rfl (rd_bin rfl rfl rfl rfl) ?_;iterate 2 refine rm rfl ?_
  refine re_end rfl ?_;refine xp_cond rfl rfl (fun h14=>?_) (fun h14=>?_)
  ·
   refine xp_skip rfl ?_
   exact⟨rfl,bl (by first|(simp[h14,h18];done)|(simp only[h14,h18,BLs])),by repeat (first|exact subL_refl _|refine subL_skip rfl ?_),hl⟩
  refine xs (by kernel_rfl) ?_;refine rr rfl (rd_fieldAddr rfl rfl (fa Tryz.underlying55 az55 rfl)) ?_;refine rr rfl (rl hl 0 rfl rfl (by kernel_rfl) rfl rfl) ?_;refine rr rfl (rd_bin rfl rfl rfl rfl) ?_;refine rm rfl ?_;refine re_bool (d:=26) rfl (fun h26=>?_) (fun h26=>?_)
  ·
   iterate 3 refine rz rfl ?_
   iterate 2 refine rm rfl ?_
   refine re_end rfl ?_;refine xp_cond_t rfl rfl ?_;refine xp_skip rfl ?_
   exact⟨rfl,bl (by first|(simp[h26,h14,h18];done)|(simp only[h26,h14,h18,BLs])),by repeat (first|exact subL_refl _|refine subL_skip rfl ?_),hl⟩
  refine rr rfl (rd_fieldAddr rfl rfl (fa Tryz.underlying55 az55 rfl)) ?_;refine rr rfl (rl hl 0 rfl rfl (by kernel_rfl) rfl rfl) ?_;refine rr rfl (rd_bin rfl rfl rfl rfl) ?_;iterate 2 refine rm rfl ?_
  refine re_end rfl ?_;refine xp_cond rfl rfl (fun h1014=>?_) (fun h1014=>?_)
  ·
   refine xp_skip rfl ?_
   exact⟨rfl,bl (by first|(simp[h1014,h26,h14,h18];done)|(simp only[h1014,h26,h14,h18,BLs])),by repeat (first|exact subL_refl _|refine subL_skip rfl ?_),hl⟩
  refine xg (by kernel_rfl) ?_;refine rr rfl (rd_fieldAddr rfl rfl (fa Tryz.underlying55 az55 rfl)) ?_;refine rr rfl (rl hl 0 rfl rfl (by kernel_rfl) rfl rfl) ?_;refine rr rfl (rd_bin rfl rfl rfl rfl) ?_;refine rm rfl ?_;refine re_bool (d:=34) rfl (fun h34=>?_) (fun h34=>?_)
  ·
   iterate 3 refine rz rfl ?_
   iterate 2 refine rm rfl ?_
   refine re_end rfl ?_
   exact⟨rfl,bl (by first|(simp[h34,h1014,h26,h14,h18];done)|(simp only[h34,h1014,h26,h14,h18,BLs])),by repeat (first|exact subL_refl _|refine subL_skip rfl ?_),hl⟩
  refine rr rfl (rd_fieldAddr rfl rfl (fa Tryz.underlying55 az55 rfl)) ?_;refine rr rfl (rl hl 0 rfl rfl (by kernel_rfl) rfl rfl) ?_;refine rr rfl (rd_bin rfl rfl rfl rfl) ?_;iterate 2 refine rm rfl ?_
  refine re_end rfl ?_
  exact⟨rfl,bl (by first|(simp[h34,h1014,h26,h14,h18];done)|(simp only[h34,h1014,h26,h14,h18,BLs])),by repeat (first|exact subL_refl _|refine subL_skip rfl ?_),hl⟩
 intro S1 hl
 refine xp_cond rfl rfl (fun h14=>?_) (fun h14=>?_)
 ·
  refine xs (by kernel_rfl) ?_;refine rm rfl ?_;refine re_end rfl ?_;refine xp_ret rfl ?_
  refine blk_ret (thn_ret (done_ret (ress_tmp rfl rfl) ⟨hl.keep,congrArg (Value.int .i64) (by unfold noteE;rw[h10,h14];rfl)⟩))
 refine xp_seq rfl (xe_toE hl 39 (.bool ((!((sgI C k).last==(k==(C.length:Int)-1)))||!decide (sgI C k=bareS (sgI C k)))) ?_ rfl ?_)
 ·
  refine xp_draw (idx:=[0,1,2,3,4,5,6,7,8,9,10,11,12,13,14]) rfl (by kernel_rfl) (by kernel_rfl) ?_;refine pr rfl (rd_fieldAddr rfl rfl (fa Tryz.underlying55 az55 rfl)) ?_;refine pk rfl (rl hl 0 rfl rfl (by kernel_rfl) rfl rfl) ?_;iterate 2 refine pm rfl ?_
  refine pk rfl (rd_len rfl rfl (len_slice Tryz.underlying42)) ?_;refine pr rfl (rd_bin rfl rfl rfl (i6 (by first|omega|(simp at *;omega)))) ?_;iterate 2 refine pr rfl (rd_bin rfl rfl rfl rfl) ?_
  refine pm rfl ?_;refine rp_bool (d:=48) rfl (fun h48=>?_) (fun h48=>?_)
  ·
   iterate 4 refine pz rfl ?_
   iterate 2 refine pm rfl ?_
   refine rp_end rfl ?_
   exact⟨rfl,bl (by first|(simp[h48];done)|(simp only[h48,BLs])),by repeat (first|exact subL_refl _|refine subL_skip rfl ?_),hl⟩
  iterate 2 refine pk rfl (rd_load rfl rfl (loadN_of (z:=17) (by kernel_rfl) (by kernel_rfl) (hl.get 0 rfl) rfl)) ?_
  refine rp_callL hl rfl rfl rfl rfl rfl rfl rfl (spec269 _) ?_;rintro v S1 hk1 rfl hl;refine⟨stays_of ⟨stays_load (X:=True) rfl rfl (loadN_of (z:=17) (by kernel_rfl) (by kernel_rfl) (hl.get 0 rfl) rfl) (same_agg rfl (atoms_sign (sgI C k))) rfl trivial,stays_load (X:=True) rfl rfl (loadN_of (z:=17) (by kernel_rfl) (by kernel_rfl) (hl.get 0 rfl) rfl) (same_agg rfl (atoms_sign (sgI C k))) rfl trivial,stays_len rfl rfl (len_slice Tryz.underlying42) (same_atom (atom_int _ _)) rfl,stays_load (X:=True) rfl rfl (load1_of (by kernel_rfl) (hl.get 0 rfl) rfl) (same_atom (atom_bool _)) rfl trivial,trivial⟩,?_⟩
  refine pr rfl (rd_bin rfl rfl rfl (neSign _ _ (sgI C k) (bareS (sgI C k)))) ?_;iterate 2 refine pm rfl ?_
  refine rp_end rfl ?_
  exact⟨rfl,bl (by first|(simp[h48];done)|(simp only[h48,BLs])),by repeat (first|exact subL_refl _|refine subL_skip rfl ?_),hl⟩
 intro S1 hl
 refine xp_cond rfl rfl (fun h39=>?_) (fun h39=>?_)
 ·
  refine xs (by kernel_rfl) ?_;refine rm rfl ?_;refine re_end rfl ?_;refine xp_ret rfl ?_
  refine blk_ret (thn_ret (done_ret (ress_tmp rfl rfl) ⟨hl.keep,congrArg (Value.int .i64) (by unfold noteE;rw[h10,h14,h39];rfl)⟩))
 refine xp_seq rfl (xe_toE hl 54 (.bool (decide (k>0)&&(((sgI C k).stem==1)||((sgI C k).stem==2)))) ?_ rfl ?_)
 ·
  refine xg (by kernel_rfl) ?_;refine rm rfl ?_;refine rr rfl (rd_bin rfl rfl rfl rfl) ?_;refine rm rfl ?_;refine re_bool (d:=57) rfl (fun h57=>?_) (fun h57=>?_)
  ·
   refine rr rfl (rd_fieldAddr rfl rfl (fa Tryz.underlying55 az55 rfl)) ?_;refine rr rfl (rl hl 0 rfl rfl (by kernel_rfl) rfl rfl) ?_;refine rr rfl (rd_bin rfl rfl rfl rfl) ?_;refine rm rfl ?_;refine re_bool (d:=61) rfl (fun h61=>?_) (fun h61=>?_)
   ·
    iterate 3 refine rz rfl ?_
    iterate 3 refine rm rfl ?_
    refine re_end rfl ?_
    exact⟨rfl,bl (by first|(simp[h61,h57];done)|(simp only[h61,h57,BLs])),by repeat (first|exact subL_refl _|refine subL_skip rfl ?_),hl⟩
   refine rr rfl (rd_fieldAddr rfl rfl (fa Tryz.underlying55 az55 rfl)) ?_;refine rr rfl (rl hl 0 rfl rfl (by kernel_rfl) rfl rfl) ?_;refine rr rfl (rd_bin rfl rfl rfl rfl) ?_;iterate 3 refine rm rfl ?_
   refine re_end rfl ?_
   exact⟨rfl,bl (by first|(simp[h61,h57];done)|(simp only[h61,h57,BLs])),by repeat (first|exact subL_refl _|refine subL_skip rfl ?_),hl⟩
  iterate 8 refine rz rfl ?_
  iterate 2 refine rm rfl ?_
  refine re_end rfl ?_
  exact⟨rfl,bl (by first|(simp[h57];done)|(simp only[h57,BLs])),by repeat (first|exact subL_refl _|refine subL_skip rfl ?_),hl⟩
 intro S1 hl
 refine xp_cond rfl rfl (fun h54=>?_) (fun h54=>?_)
 ·
  refine xs (by kernel_rfl) ?_;refine rm rfl ?_;refine re_end rfl ?_;refine xp_ret rfl ?_
  refine blk_ret (thn_ret (done_ret (ress_tmp rfl rfl) ⟨hl.keep,congrArg (Value.int .i64) (by unfold noteE;rw[h10,h14,h39,h54];rfl)⟩))
 refine xp_seq rfl (xe_toE hl 67 (.bool ((sgI C k).oblique&&((k==(C.length:Int)-1)||decide ((sgI C (k+1)).place≥(sgI C k).place)||(sgI C (k+1)).oblique))) ?_ rfl ?_)
 ·
  refine xp_draw (idx:=[0,1,2,3,4,5,6,7,8,9,10,11,12,13,14,15,16,17,18,19,20,21,22,23,24,25,26,27,28]) rfl (by kernel_rfl) (by kernel_rfl) ?_;refine pr rfl (rd_fieldAddr rfl rfl (fa Tryz.underlying55 az55 rfl)) ?_;refine pk rfl (rl hl 0 rfl rfl (by kernel_rfl) rfl rfl) ?_;refine pm rfl ?_;refine rp_bool (d:=70) rfl (fun h70=>?_) (fun h70=>?_)
  ·
   iterate 2 refine pm rfl ?_
   refine pk rfl (rd_len rfl rfl (len_slice Tryz.underlying42)) ?_;refine pr rfl (rd_bin rfl rfl rfl (i6 (by first|omega|(simp at *;omega)))) ?_;refine pr rfl (rd_bin rfl rfl rfl rfl) ?_;refine pm rfl ?_;refine rp_bool (d:=76) rfl (fun h76=>?_) (fun h76=>?_)
   ·
    iterate 9 refine pz rfl ?_
    iterate 2 refine pm rfl ?_
    iterate 6 refine pz rfl ?_
    iterate 3 refine pm rfl ?_
    refine rp_end rfl ?_
    exact⟨rfl,bl (by first|(simp[h76,h70];done)|(simp only[h76,h70,BLs])),by repeat (first|exact subL_refl _|refine subL_skip rfl ?_),hl⟩
   iterate 2 refine pm rfl ?_
   refine pr rfl (rd_bin rfl rfl rfl (i6 (by first|omega|(simp at *;omega)))) ?_;refine pr rfl (rd_indexAddr rfl rfl rfl (indexAddr_slice (z:=17) Tryz.underlying42 (by kernel_rfl) ⟨by first|omega|(simp at *;omega),by first|omega|(simp at *;omega)⟩)) ?_;refine pr rfl (rd_fieldAddr rfl rfl (fa Tryz.underlying55 az55 rfl)) ?_;refine pk rfl (rd_load rfl rfl (load1_row (by kernel_rfl) (row_move (hl.since 0 rfl) hrow) (tk_nth (hall _ (by first|omega|(simp at *;omega)) (by first|omega|(simp at *;omega))) rfl))) ?_
   refine pr rfl (rd_fieldAddr rfl rfl (fa Tryz.underlying55 az55 rfl)) ?_;refine pk rfl (rl hl 0 rfl rfl (by kernel_rfl) rfl rfl) ?_;refine pr rfl (rd_bin rfl rfl rfl rfl) ?_;iterate 2 refine pm rfl ?_
   refine rp_bool (d:=87) rfl (fun h87=>?_) (fun h87=>?_)
   ·
    iterate 6 refine pz rfl ?_
    iterate 3 refine pm rfl ?_
    refine rp_end rfl ?_
    exact⟨rfl,bl (by first|(simp[h87,h76,h70];done)|(simp only[h87,h76,h70,BLs])),by repeat (first|exact subL_refl _|refine subL_skip rfl ?_),hl⟩
   iterate 2 refine pm rfl ?_
   refine pr rfl (rd_bin rfl rfl rfl (i6 (by first|omega|(simp at *;omega)))) ?_;refine pr rfl (rd_indexAddr rfl rfl rfl (indexAddr_slice (z:=17) Tryz.underlying42 (by kernel_rfl) ⟨by first|omega|(simp at *;omega),by first|omega|(simp at *;omega)⟩)) ?_;refine pr rfl (rd_fieldAddr rfl rfl (fa Tryz.underlying55 az55 rfl)) ?_;refine pk rfl (rd_load rfl rfl (load1_row (by kernel_rfl) (row_move (hl.since 0 rfl) hrow) (tk_nth (hall _ (by first|omega|(simp at *;omega)) (by first|omega|(simp at *;omega))) rfl))) ?_;iterate 3 refine pm rfl ?_
   refine rp_end rfl ?_
   exact⟨rfl,bl (by first|(simp[h87,h76,h70];done)|(simp only[h87,h76,h70,BLs])),by repeat (first|exact subL_refl _|refine subL_skip rfl ?_),hl⟩
  iterate 24 refine pz rfl ?_
  iterate 2 refine pm rfl ?_
  refine rp_end rfl ?_
  exact⟨rfl,bl (by first|(simp[h70];done)|(simp only[h70,BLs])),by repeat (first|exact subL_refl _|refine subL_skip rfl ?_),hl⟩
 intro S1 hl
 refine xp_cond rfl rfl (fun h67=>?_) (fun h67=>?_)
 ·
  refine xs (by kernel_rfl) ?_;refine rm rfl ?_;refine re_end rfl ?_;refine xp_ret rfl ?_
  refine blk_ret (thn_ret (done_ret (ress_tmp rfl rfl) ⟨hl.keep,congrArg (Value.int .i64) (by unfold noteE;rw[h10,h14,h39,h54,h67];rfl)⟩))
 refine xp_seq rfl (xe_toE hl 96 (.bool (decide (k>0)&&((sgI C k).place==(sgI C (k-1)).place))) ?_ rfl ?_)
 ·
  refine xp_draw (idx:=[0,1,2,3,4,5,6,7,8,9,10,11,12,13]) rfl (by kernel_rfl) (by kernel_rfl) ?_;refine pm rfl ?_;refine pr rfl (rd_bin rfl rfl rfl rfl) ?_;refine pm rfl ?_;refine rp_bool (d:=99) rfl (fun h99=>?_) (fun h99=>?_)
  ·
   refine pr rfl (rd_fieldAddr rfl rfl (fa Tryz.underlying55 az55 rfl)) ?_;refine pk rfl (rl hl 0 rfl rfl (by kernel_rfl) rfl rfl) ?_;iterate 2 refine pm rfl ?_
   refine pr rfl (rd_bin rfl rfl rfl (i6 (by first|omega|(simp at *;omega)))) ?_;refine pr rfl (rd_indexAddr rfl rfl rfl (indexAddr_slice (z:=17) Tryz.underlying42 (by kernel_rfl) ⟨by first|omega|(simp at *;omega),by first|omega|(simp at *;omega)⟩)) ?_;refine pr rfl (rd_fieldAddr rfl rfl (fa Tryz.underlying55 az55 rfl)) ?_;refine pk rfl (rd_load rfl rfl (load1_row (by kernel_rfl) (row_move (hl.since 0 rfl) hrow) (tk_nth (hall _ (by first|omega|(simp at *;omega)) (by first|omega|(simp at *;omega))) rfl))) ?_;refine pr rfl (rd_bin rfl rfl rfl rfl) ?_
   iterate 2 refine pm rfl ?_
   refine rp_end rfl ?_
   exact⟨rfl,bl (by first|(simp[h99];done)|(simp only[h99,BLs])),by repeat (first|exact subL_refl _|refine subL_skip rfl ?_),hl⟩
  iterate 9 refine pz rfl ?_
  iterate 2 refine pm rfl ?_
  refine rp_end rfl ?_
  exact⟨rfl,bl (by first|(simp[h99];done)|(simp only[h99,BLs])),by repeat (first|exact subL_refl _|refine subL_skip rfl ?_),hl⟩
 intro S1 hl
 refine xp_cond rfl rfl (fun h96=>?_) (fun h96=>?_)
 ·
  refine xs (by kernel_rfl) ?_;refine rm rfl ?_;refine re_end rfl ?_;refine xp_ret rfl ?_
  refine blk_ret (thn_ret (done_ret (ress_tmp rfl rfl) ⟨hl.keep,congrArg (Value.int .i64) (by unfold noteE;rw[h10,h14,h39,h54,h67,h96];rfl)⟩))
 refine xp_seq rfl (xe_toE hl 110 (.bool ((k==1)&&((sgI C k).stem==3)&&((sgI C 0).stem==1))) ?_ rfl ?_)
 ·
  refine xg (by kernel_rfl) ?_;refine rm rfl ?_;refine rr rfl (rd_bin rfl rfl rfl rfl) ?_;refine rm rfl ?_;refine re_bool (d:=113) rfl (fun h113=>?_) (fun h113=>?_)
  ·
   refine rr rfl (rd_fieldAddr rfl rfl (fa Tryz.underlying55 az55 rfl)) ?_;refine rr rfl (rl hl 0 rfl rfl (by kernel_rfl) rfl rfl) ?_;refine rr rfl (rd_bin rfl rfl rfl rfl) ?_;iterate 2 refine rm rfl ?_
   refine re_bool (d:=118) rfl (fun h118=>?_) (fun h118=>?_)
   ·
    refine rm rfl ?_;refine rr rfl (rd_indexAddr rfl rfl rfl (indexAddr_slice (z:=17) Tryz.underlying42 (by kernel_rfl) ⟨by first|omega|(simp at *;omega),by first|omega|(simp at *;omega)⟩)) ?_;refine rr rfl (rd_fieldAddr rfl rfl (fa Tryz.underlying55 az55 rfl)) ?_;refine rr rfl (rd_load rfl rfl (load1_row (by kernel_rfl) (row_move (hl.since 0 rfl) hrow) (tk_nth (hall _ (by first|omega|(simp at *;omega)) (by first|omega|(simp at *;omega))) rfl))) ?_;refine rr rfl (rd_bin rfl rfl rfl rfl) ?_;iterate 2 refine rm rfl ?_
    refine re_end rfl ?_
    exact⟨rfl,bl (by first|(simp[h118,h113];done)|(simp only[h118,h113,BLs])),by repeat (first|exact subL_refl _|refine subL_skip rfl ?_),hl⟩
   iterate 5 refine rz rfl ?_
   iterate 2 refine rm rfl ?_
   refine re_end rfl ?_
   exact⟨rfl,bl (by first|(simp[h118,h113];done)|(simp only[h118,h113,BLs])),by repeat (first|exact subL_refl _|refine subL_skip rfl ?_),hl⟩
  iterate 3 refine rz rfl ?_
  iterate 2 refine rm rfl ?_
  iterate 5 refine rz rfl ?_
  iterate 2 refine rm rfl ?_
  refine re_end rfl ?_
  exact⟨rfl,bl (by first|(simp[h113];done)|(simp only[h113,BLs])),by repeat (first|exact subL_refl _|refine subL_skip rfl ?_),hl⟩
 intro S1 hl
 refine xp_cond rfl rfl (fun h110=>?_) (fun h110=>?_)
 ·
  refine xs (by kernel_rfl) ?_;refine rm rfl ?_;refine re_end rfl ?_;refine xp_ret rfl ?_
  refine blk_ret (thn_ret (done_ret (ress_tmp rfl rfl) ⟨hl.keep,congrArg (Value.int .i64) (by unfold noteE;rw[h10,h14,h39,h54,h67,h96,h110];rfl)⟩))
 refine xp_skip rfl ?_;refine xs (by kernel_rfl) ?_;refine rm rfl ?_;refine re_end rfl ?_;refine xp_ret rfl ?_
 refine done_ret (ress_tmp rfl rfl) ⟨hl.keep,congrArg (Value.int .i64) (by unfold noteE;rw[h10,h14,h39,h54,h67,h96,h110];rfl)⟩
end Go.Proofs.YtmfphenhpkgidaaGreatDoor
namespace Go.Proofs.YtmfphenhpkgidaaGreatDoor
open Go.Cm Go
set_option maxRecDepth 100000
variable{S:St}
noncomputable def c174:Code:=Tryz.f174.body.getD .skip
theorem spec174(a:Option Addr)(cap:Nat)(C:List Sg)(hn:C.length≤1000)(hv:Signs S (.slice a C.length cap) C):CC Tryz.prog KK 174 [.slice a C.length cap] S (fun v S'=>Keep S S'∧v=tupV [.int .i64 (ligCheck C).1,.int .i64 (ligCheck C).2]):=by
 refine cc_enter (c:=c174) (n:=27) Tryz.func174 rfl rfl rfl (by kernel_rfl) rfl rfl ?_
 have hl:=Hold.start S
 refine zS ?_;refine xp_seq rfl ?_;refine xp_seq rfl (xe_toE hl 13 (.bool (ligB C)) ?_ rfl ?_)
 ·
  refine zg ?_;refine re_bool (d:=9) rfl (fun h9=>?_) (fun h9=>?_)
  ·
   refine zg ?_
   exact⟨rfl,bl (by unfold ligB;simp only[h9,BLs]),by repeat (first|exact subL_refl _|refine subL_skip rfl ?_),hl⟩
  refine zg ?_
  exact⟨rfl,bl (by unfold ligB;simp only[h9,BLs]),by repeat (first|exact subL_refl _|refine subL_skip rfl ?_),hl⟩
 intro S1 hl
 refine zg ?_
 constructor<;>intro h13
 ·
  refine zg ?_
  exact(z2 rfl rfl ⟨hl.keep,res2 (by unfold ligCheck;rw[h13];rfl)⟩)
 refine xp_skip rfl ?_;refine xp_seq rfl ?_;refine zS ?_;refine xp_block rfl ?_
 -- LOOP
 have hck:ligCheck C=ligE C.length C 0:=by unfold ligCheck;rw[h13];rfl
 refine xe_sub (L':=[(4,.int .i64 0),(0,.slice a C.length cap)]) ⟨rfl,rfl,trivial⟩ ?_
 refine xp_loop rfl (fun m Le S'=>∃i:Nat,i≤C.length∧m=C.length-i∧SubE [(4,.int .i64 (i:Int)),(0,.slice a C.length cap)] Le∧ligE (C.length-i) C i=ligE C.length C 0∧HoldG S [S] S' [] []) ?_ (m:=C.length) ⟨0,by omega,by omega,⟨rfl,rfl,trivial⟩,rfl,hl⟩
 clear hl;rintro m Le S' ⟨i,hi,rfl,hsub,hpr,hl⟩;refine xe_sub hsub ?_
 refine zg ?_
 constructor<;>intro h17
 ·
  have hlt:i<C.length:=by have:=of_decide_eq_true h17;omega
  refine zg ?_
  refine zc hl rfl (spec217 a cap C i hn (by omega) (by omega) (hv.move (hl.since 0 rfl))) ?_;rintro v S1 hk1 rfl hl
  refine zg ?_
  constructor<;>intro h24
  ·
   refine zg ?_
   refine blk_ret (thn_ret (round_ret (blk_ret ((z2 rfl rfl ⟨hl.keep,res2 (by rw[hck,←hpr,show C.length-i=(C.length-(i+1))+1 by omega,ligE_no (by rw[←note_eq (by omega)];simpa using h24),note_eq (by omega)])⟩)))))
  refine zg ?_
  refine⟨C.length-(i+1),by omega,i+1,by omega,rfl,⟨rfl,rfl,trivial⟩,?_,hl⟩
  rw[←hpr,show C.length-i=(C.length-(i+1))+1 by omega,ligE_go (by rw[←note_eq (by omega)];simpa using h24)]
 refine zg ?_
 refine y2 rfl rfl ⟨hl.keep,res2 (by rw[hck,←hpr,show C.length-i=0 by have:=of_decide_eq_false h17;omega];rfl)⟩
def valueE(C:List Sg)(k:Int):Int:=bif (sgI C k).stem==3 then 2 else bif decide (k<2)&&((sgI C 0).stem==1)then 4 else bif k==0 then(bif ((decide ((sgI C 1).place<(sgI C 0).place)&&!((sgI C 0).stem==2))||(!decide ((sgI C 1).place<(sgI C 0).place)&&((sgI C 0).stem==2)))then 2 else 3)else bif ((k==(C.length:Int)-1)&&!(sgI C (k-1)).oblique&&decide ((sgI C k).place<(sgI C (k-1)).place))then 2 else 3
theorem value_eq{C:List Sg}{k:Int}(k0:0≤k):valueE C k=ligValue C k:=by
 have e1:(k==(C.length:Int)-1)=(k+1==(C.length:Int)):=by rw[Bool.eq_iff_iff];simp;omega
 have e2:decide (k>0)=!(k==0):=by rw[Bool.eq_iff_iff];simp;omega
 unfold valueE ligValue rule1 rule2 rule3 rule4
 rw[e1,e2]
 generalize ((sgI C k).stem==3)=X1
 generalize (decide (k<2)&&((sgI C 0).stem==1))=X2
 generalize decide ((sgI C 1).place<(sgI C 0).place)=X3
 generalize ((sgI C 0).stem==2)=X4
 generalize ((k+1==(C.length:Int))&&!(sgI C (k-1)).oblique&&decide ((sgI C k).place<(sgI C (k-1)).place))=X5
 generalize (k==0)=X6
 cases X1<;>cases X2<;>cases X3<;>cases X4<;>cases X5<;>cases X6<;>rfl
noncomputable def c175:Code:=Tryz.f175.body.getD .skip
theorem spec175(a:Option Addr)(cap:Nat)(C:List Sg)(k:Int)(hn:C.length≤1000)(h2:2≤C.length)(k0:0≤k)(k1:k<C.length)(hv:Signs S (.slice a C.length cap) C):CC Tryz.prog KK 175 [.slice a C.length cap,.int .i64 k] S (fun v S'=>Keep S S'∧v= .int .i64 (valueE C k)):=by
 refine cc_enter (c:=c175) (n:=78) Tryz.func175 rfl rfl rfl (by kernel_rfl) rfl rfl ?_
 have hl:=Hold.start S
 obtain⟨b,o,cs,rfl,hrow,hall⟩:=hv.row (by omega)
 refine xs (by kernel_rfl) ?_;refine rm rfl ?_;refine re_end rfl ?_;refine xp_seq rfl ?_;refine xs (by kernel_rfl) ?_;iterate 2 refine rm rfl ?_
 refine rr rfl (rd_indexAddr rfl rfl rfl (indexAddr_slice (z:=17) Tryz.underlying42 (by kernel_rfl) ⟨by first|omega|(simp at *;omega),by first|omega|(simp at *;omega)⟩)) ?_;refine rr rfl (rd_fieldAddr rfl rfl (fa Tryz.underlying55 az55 rfl)) ?_;refine rr rfl (rd_load rfl rfl (load1_row (by kernel_rfl) (row_move (hl.since 0 rfl) hrow) (tk_nth (hall _ (by first|omega|(simp at *;omega)) (by first|omega|(simp at *;omega))) rfl))) ?_;refine rr rfl (rd_bin rfl rfl rfl rfl) ?_;refine re_end rfl ?_;refine zi tt rfl ?_
 constructor<;>intro h12
 ·
  refine zg ?_
  exact(z1 rfl ⟨hl.keep,congrArg (Value.int .i64) (by unfold valueE;rw[h12];rfl)⟩)
 refine xp_skip rfl ?_;refine xp_seq rfl ?_;refine xp_seq rfl (xe_toE hl 21 (.bool (decide (k<2)&&((sgI C 0).stem==1))) ?_ rfl ?_)
 ·
  refine zg ?_;refine re_bool (d:=15) rfl (fun h15=>?_) (fun h15=>?_)
  ·
   refine rm rfl ?_;refine rr rfl (rd_indexAddr rfl rfl rfl (indexAddr_slice (z:=17) Tryz.underlying42 (by kernel_rfl) ⟨by first|omega|(simp at *;omega),by first|omega|(simp at *;omega)⟩)) ?_;refine rr rfl (rd_fieldAddr rfl rfl (fa Tryz.underlying55 az55 rfl)) ?_;refine rr rfl (rd_load rfl rfl (load1_row (by kernel_rfl) (row_move (hl.since 0 rfl) hrow) (tk_nth (hall _ (by first|omega|(simp at *;omega)) (by first|omega|(simp at *;omega))) rfl))) ?_;refine rr rfl (rd_bin rfl rfl rfl rfl) ?_;refine rm rfl ?_;refine re_end rfl ?_
   exact⟨rfl,bl (by first|(simp[h15];done)|(simp only[h15,BLs])),by repeat (first|exact subL_refl _|refine subL_skip rfl ?_),hl⟩
  refine zg ?_
  exact⟨rfl,bl (by first|(simp[h15];done)|(simp only[h15,BLs])),by repeat (first|exact subL_refl _|refine subL_skip rfl ?_),hl⟩
 intro S1 hl
 refine zg ?_
 constructor<;>intro h21
 ·
  refine zg ?_
  exact(z1 rfl ⟨hl.keep,congrArg (Value.int .i64) (by unfold valueE;rw[h12,h21];rfl)⟩)
 refine zg ?_
 constructor<;>intro h23
 ·
  refine zg ?_;refine xp_draw (idx:=[0,1,2,3,4,5,6,7,8,9]) rfl (by kernel_rfl) (by kernel_rfl) ?_;refine pm rfl ?_;refine pr rfl (rd_indexAddr rfl rfl rfl (indexAddr_slice (z:=17) Tryz.underlying42 (by kernel_rfl) ⟨by first|omega|(simp at *;omega),by first|omega|(simp at *;omega)⟩)) ?_;refine pr rfl (rd_fieldAddr rfl rfl (fa Tryz.underlying55 az55 rfl)) ?_;refine pk rfl (rd_load rfl rfl (load1_row (by kernel_rfl) (row_move (hl.since 0 rfl) hrow) (tk_nth (hall _ (by first|omega|(simp at *;omega)) (by first|omega|(simp at *;omega))) rfl))) ?_;refine pm rfl ?_
  refine pr rfl (rd_indexAddr rfl rfl rfl (indexAddr_slice (z:=17) Tryz.underlying42 (by kernel_rfl) ⟨by first|omega|(simp at *;omega),by first|omega|(simp at *;omega)⟩)) ?_;refine pr rfl (rd_fieldAddr rfl rfl (fa Tryz.underlying55 az55 rfl)) ?_;refine pk rfl (rd_load rfl rfl (load1_row (by kernel_rfl) (row_move (hl.since 0 rfl) hrow) (tk_nth (hall _ (by first|omega|(simp at *;omega)) (by first|omega|(simp at *;omega))) rfl))) ?_;refine pr rfl (rd_bin rfl rfl rfl rfl) ?_;refine pm rfl ?_;refine rp_end rfl ?_;refine xs (by kernel_rfl) ?_;refine rm rfl ?_
  refine rr rfl (rd_indexAddr rfl rfl rfl (indexAddr_slice (z:=17) Tryz.underlying42 (by kernel_rfl) ⟨by first|omega|(simp at *;omega),by first|omega|(simp at *;omega)⟩)) ?_;refine rr rfl (rd_fieldAddr rfl rfl (fa Tryz.underlying55 az55 rfl)) ?_;refine rr rfl (rd_load rfl rfl (load1_row (by kernel_rfl) (row_move (hl.since 0 rfl) hrow) (tk_nth (hall _ (by first|omega|(simp at *;omega)) (by first|omega|(simp at *;omega))) rfl))) ?_;refine rr rfl (rd_bin rfl rfl rfl rfl) ?_;refine rm rfl ?_;refine re_end rfl ?_;refine xp_seq rfl ?_
  refine xp_seq rfl (xe_toE hl 49 (.bool ((decide ((sgI C 1).place<(sgI C 0).place)&&!((sgI C 0).stem==2))||(!decide ((sgI C 1).place<(sgI C 0).place)&&((sgI C 0).stem==2)))) ?_ rfl ?_)
  ·
   refine zg ?_;refine re_bool (d:=39) rfl (fun h39=>?_) (fun h39=>?_)
   ·
    refine zg ?_;refine rr rfl (rd_un rfl rfl rfl) ?_;refine zg ?_;refine re_bool (d:=43) rfl (fun h43=>?_) (fun h43=>?_)
    ·
     refine zg ?_
     exact⟨rfl,bl (by first|(simp[h43,h39];done)|(simp only[h43,h39,BLs])),by repeat (first|exact subL_refl _|refine subL_skip rfl ?_),hl⟩
    refine zg ?_;refine rr rfl (rd_un rfl rfl rfl) ?_;refine zg ?_;refine re_bool (d:=46) rfl (fun h46=>?_) (fun h46=>?_)
    ·
     refine zg ?_
     exact⟨rfl,bl (by revert h46 h43 h39;cases decide ((sgI C 1).place<(sgI C 0).place)<;>cases ((sgI C 0).stem==2)<;>decide),by repeat (first|exact subL_refl _|refine subL_skip rfl ?_),hl⟩
    refine zg ?_
    exact⟨rfl,bl (by revert h46 h43 h39;cases decide ((sgI C 1).place<(sgI C 0).place)<;>cases ((sgI C 0).stem==2)<;>decide),by repeat (first|exact subL_refl _|refine subL_skip rfl ?_),hl⟩
   refine zg ?_;refine rr rfl (rd_un rfl rfl rfl) ?_;refine zg ?_;refine re_bool (d:=46) rfl (fun h46=>?_) (fun h46=>?_)
   ·
    refine zg ?_
    exact⟨rfl,bl (by revert h46 h39;cases decide ((sgI C 1).place<(sgI C 0).place)<;>cases ((sgI C 0).stem==2)<;>decide),by repeat (first|exact subL_refl _|refine subL_skip rfl ?_),hl⟩
   refine zg ?_
   exact⟨rfl,bl (by revert h46 h39;cases decide ((sgI C 1).place<(sgI C 0).place)<;>cases ((sgI C 0).stem==2)<;>decide),by repeat (first|exact subL_refl _|refine subL_skip rfl ?_),hl⟩
  intro S1 hl
  refine zg ?_
  constructor<;>intro h49
  ·
   refine zg ?_
   refine thn_ret ((z1 rfl ⟨hl.keep,congrArg (Value.int .i64) (by unfold valueE;rw[h12,h21,h23,h49];rfl)⟩))
  refine zg ?_
  exact(z1 rfl ⟨hl.keep,congrArg (Value.int .i64) (by unfold valueE;rw[h12,h21,h23,h49];rfl)⟩)
 refine xp_skip rfl ?_;refine xp_seq rfl ?_;refine xp_seq rfl (xe_toE hl 77 (.bool ((k==(C.length:Int)-1)&&!(sgI C (k-1)).oblique&&decide ((sgI C k).place<(sgI C (k-1)).place))) ?_ rfl ?_)
 ·
  refine xp_draw (idx:=[0,1,2,3,4,5,6,7,8,9,10,11,12,13,14,15,16,17,18,19,20,21,22,23,24,25,26,27]) rfl (by kernel_rfl) (by kernel_rfl) ?_;iterate 2 refine pm rfl ?_
  refine pk rfl (rd_len rfl rfl (len_slice Tryz.underlying42)) ?_;refine pr rfl (rd_bin rfl rfl rfl (i6 (by first|omega|(simp at *;omega)))) ?_;refine zg ?_;refine rp_bool (d:=55) rfl (fun h55=>?_) (fun h55=>?_)
  ·
   iterate 2 refine pm rfl ?_
   refine pr rfl (rd_bin rfl rfl rfl (i6 (by first|omega|(simp at *;omega)))) ?_;refine pr rfl (rd_indexAddr rfl rfl rfl (indexAddr_slice (z:=17) Tryz.underlying42 (by kernel_rfl) ⟨by first|omega|(simp at *;omega),by first|omega|(simp at *;omega)⟩)) ?_;refine zA ?_;refine pk rfl (rd_load rfl rfl (load1_row (by kernel_rfl) (row_move (hl.since 0 rfl) hrow) (tk_nth (hall _ (by first|omega|(simp at *;omega)) (by first|omega|(simp at *;omega))) rfl))) ?_;refine pr rfl (rd_un rfl rfl rfl) ?_;refine zg ?_;refine rp_bool (d:=64) rfl (fun h64=>?_) (fun h64=>?_)
   ·
    iterate 2 refine pm rfl ?_
    refine pr rfl (rd_indexAddr rfl rfl rfl (indexAddr_slice (z:=17) Tryz.underlying42 (by kernel_rfl) ⟨by first|omega|(simp at *;omega),by first|omega|(simp at *;omega)⟩)) ?_;refine pr rfl (rd_fieldAddr rfl rfl (fa Tryz.underlying55 az55 rfl)) ?_;refine pk rfl (rd_load rfl rfl (load1_row (by kernel_rfl) (row_move (hl.since 0 rfl) hrow) (tk_nth (hall _ (by first|omega|(simp at *;omega)) (by first|omega|(simp at *;omega))) rfl))) ?_;iterate 2 refine pm rfl ?_
    refine pr rfl (rd_bin rfl rfl rfl (i6 (by first|omega|(simp at *;omega)))) ?_;refine pr rfl (rd_indexAddr rfl rfl rfl (indexAddr_slice (z:=17) Tryz.underlying42 (by kernel_rfl) ⟨by first|omega|(simp at *;omega),by first|omega|(simp at *;omega)⟩)) ?_;refine zA ?_;refine pk rfl (rd_load rfl rfl (load1_row (by kernel_rfl) (row_move (hl.since 0 rfl) hrow) (tk_nth (hall _ (by first|omega|(simp at *;omega)) (by first|omega|(simp at *;omega))) rfl))) ?_;refine zA ?_
    exact⟨rfl,bl (by first|(simp[h64,h55];done)|(simp only[h64,h55,BLs])),by repeat (first|exact subL_refl _|refine subL_skip rfl ?_),hl⟩
   refine zg ?_
   exact⟨rfl,bl (by first|(simp[h64,h55];done)|(simp only[h64,h55,BLs])),by repeat (first|exact subL_refl _|refine subL_skip rfl ?_),hl⟩
  refine zg ?_
  exact⟨rfl,bl (by first|(simp[h55];done)|(simp only[h55,BLs])),by repeat (first|exact subL_refl _|refine subL_skip rfl ?_),hl⟩
 intro S1 hl
 refine zg ?_
 constructor<;>intro h77
 ·
  refine zg ?_
  exact(z1 rfl ⟨hl.keep,congrArg (Value.int .i64) (by unfold valueE;rw[h12,h21,h23,h77];rfl)⟩)
 refine zg ?_
 refine y1 rfl ⟨hl.keep,congrArg (Value.int .i64) (by unfold valueE;rw[h12,h21,h23,h77];rfl)⟩
end Go.Proofs.YtmfphenhpkgidaaGreatDoor
namespace Go.Proofs.YtmfphenhpkgidaaGreatDoor
open Go.Cm Go
set_option maxRecDepth 100000
variable{S:St}
def valsN(C:List Sg)(i:Nat):List Int:=(List.range' 0 i).map fun j=>ligValue C (j:Nat)
theorem valsN_succ(C:List Sg)(i:Nat):(valsN C (i+1)).map iv=(valsN C i).map iv++[iv (ligValue C (i:Nat))]:=by
 unfold valsN
 rw[List.range'_concat]
 simp
theorem valsN_grow{S0 S:St}{av:Option Addr}{C:List Sg}{i:Nat}(hi:i=C.length)(h:Grow S0 S ⟨.slice av i i,3,1,(valsN C i).map iv,i⟩):GrowI S0 S (.slice av i i) (ligValues C):=by
 subst hi
 have e:(ligValues C).length=C.length:=ligValues_len C
 unfold GrowI
 rw[e]
 exact h
noncomputable def c140:Code:=Tryz.f140.body.getD .skip
theorem spec140(a:Option Addr)(cap:Nat)(C:List Sg)(hn:C.length≤1000)(_:Fresh S)(hv:Signs S (.slice a C.length cap) C):CC Tryz.prog KK 140 [.slice a C.length cap] S (fun v S'=>Keep S S'∧(∃w,v=tupV [w,.int .i64 (ligCheck C).1]∧GrowI S S' w (bif (ligCheck C).1 !=0 then []else ligValues C))):=by
 refine cc_enter (c:=c140) (n:=29) Tryz.func140 rfl rfl rfl (by kernel_rfl) rfl rfl ?_
 have hl:=Hold.start S
 refine zg ?_
 refine zc hl rfl (spec174 a cap C hn hv) ?_;rintro v S1 hk1 rfl hl
 refine zg ?_
 constructor<;>intro h14
 ·
  refine zg ?_
  exact(z2 rfl rfl ⟨hl.keep,⟨_,rfl,by rw[h14];exact .inl ⟨rfl,rfl,rfl⟩⟩⟩)
 refine xp_skip rfl ?_;refine zS ?_;refine xp_seq rfl ?_;refine zS ?_;refine xp_block rfl ?_
 -- LOOP
 have hok:(ligCheck C).1=0:=by simpa using h14
 have h2:2≤C.length:=lig_two hok
 have hl:=hl.addG (g:=⟨.slice none 0 0,3,1,(valsN C 0).map iv,0⟩) (.inl ⟨rfl,rfl,rfl⟩)
 refine xe_sub (L':=[(7,.int .i64 0),(6,.slice none 0 0),(0,.slice a C.length cap)]) ⟨rfl,rfl,rfl,trivial⟩ ?_
 refine xp_loop rfl (fun m Le S'=>∃(i:Nat) (av:Option Addr),i≤C.length∧m=C.length-i∧SubE [(7,.int .i64 (i:Int)),(6,.slice av i i),(0,.slice a C.length cap)] Le∧HoldG S [S] S' [] [⟨.slice av i i,3,1,(valsN C i).map iv,i⟩]) ?_ (m:=C.length) ⟨0,none,by omega,by omega,⟨rfl,rfl,rfl,trivial⟩,hl⟩
 clear hl;rintro m Le S' ⟨i,av,hi,rfl,hsub,hl⟩;refine xe_sub hsub ?_
 refine zg ?_
 constructor<;>intro h19
 ·
  have hlt:i<C.length:=by have:=of_decide_eq_true h19;omega
  refine zg ?_
  refine zc hl rfl (spec175 a cap C i hn h2 (by omega) (by omega) (hv.move (hl.since 0 rfl))) ?_;rintro v S1 hk1 rfl hl
  refine re_buildSliceR hl rfl rfl rfl rfl rfl Tryz.underlying38 rfl (c:=[iv (valueE C i)]) (by kernel_rfl) ?_;intro B26 S1 hr26 hl;refine re_appendG hl 0 rfl rfl (by simp) rfl rfl rfl rfl rfl rfl rfl Tryz.underlying38 Tryz.underlying38 rfl rfl (by kernel_rfl) (src_row (new:=[iv (valueE C i)]) hr26 rfl) rfl rfl (by kernel_rfl) (by show i+1≤maxNeed;unfold maxNeed;omega) ?_;intro v27 S1 hl
  obtain⟨av2,rfl⟩:∃av2,v27= .slice av2 (i+1) (i+1):=Grow.is (hl.gr _ (List.mem_cons_self ..))
  refine zg ?_
  refine⟨C.length-(i+1),by omega,i+1,av2,by omega,rfl,⟨rfl,rfl,rfl,trivial⟩,?_⟩
  rw[valsN_succ,←value_eq (by omega)];exact hl.tail
 refine zg ?_
 refine y2 rfl rfl ⟨hl.keep,⟨_,by rw[hok],by rw[hok];exact valsN_grow (by have:=of_decide_eq_false h19;omega) (hl.gr _ (List.mem_cons_self ..))⟩⟩
end Go.Proofs.YtmfphenhpkgidaaGreatDoor
namespace Go.Proofs.YtmfphenhpkgidaaGreatDoor
open Go.Cm Go
set_option maxRecDepth 100000
variable{S:St}
def firstsN(C:List Sg)(i:Nat):List Int:=((List.range' 0 i).filter fun j=>tiedI C (j:Nat)&&!openB C j).map fun j=>((j:Nat):Int)
def lastsN(C:List Sg)(i:Nat):List Int:=((List.range' 0 i).filter fun j=>tiedI C (j:Nat)&&(sgI C (j:Nat)).last).map fun j=>((j:Nat):Int)
theorem firstsN_succ(C:List Sg)(i:Nat):firstsN C (i+1)=firstsN C i++bif tiedI C (i:Nat)&&!openB C i then [((i:Nat):Int)]else []:=by
 unfold firstsN
 rw[List.range'_concat,List.filter_append,List.map_append]
 congr 1
 simp only[Nat.zero_add,Nat.one_mul,List.filter_cons,List.filter_nil]
 cases (tiedI C (i:Nat)&&!openB C i)<;>rfl
theorem lastsN_succ(C:List Sg)(i:Nat):lastsN C (i+1)=lastsN C i++bif tiedI C (i:Nat)&&(sgI C (i:Nat)).last then [((i:Nat):Int)]else []:=by
 unfold lastsN
 rw[List.range'_concat,List.filter_append,List.map_append]
 congr 1
 simp only[Nat.zero_add,Nat.one_mul,List.filter_cons,List.filter_nil]
 cases (tiedI C (i:Nat)&&(sgI C (i:Nat)).last)<;>rfl
theorem firstsN_len(C:List Sg)(i:Nat):(firstsN C i).length≤i:=by
 unfold firstsN
 rw[List.length_map]
 exact Nat.le_trans (List.length_filter_le _ _) (by simp)
theorem lastsN_len(C:List Sg)(i:Nat):(lastsN C i).length≤i:=by
 unfold lastsN
 rw[List.length_map]
 exact Nat.le_trans (List.length_filter_le _ _) (by simp)
theorem open_sg{C:List Sg}{i:Nat}(h:(!tiedI C ((i:Int)-1))=false):(sgI C ((i:Int)-1)).last=!openB C i:=by
 obtain⟨j,rfl,s,hs,hk⟩:=tied_prev h
 rw[show(((j+1:Nat):Int)-1)=(j:Int) by omega,sgI_at hs]
 exact open_last hs hk
def gLi(v:Value)(l:List Int):Gr:=⟨v,3,1,l.map iv,l.length⟩
theorem apart0(l r:List Int):Apart [gLi (.slice none 0 0) l,gLi (.slice none 0 0) r]:=fun i j g h _ hi _=>by
 match i with
 |0=>cases hi;exact .inl rfl
 |1=>cases hi;exact .inl rfl
 |i+2=>cases i<;>cases hi
noncomputable def c139:Code:=Tryz.f139.body.getD .skip
theorem spec139(nm:ByteArray)(a:Option Addr)(cap:Nat)(C:List Sg)(hnm:nm.data.toList.length≤1000)(hn:C.length≤1000)(hv:Signs S (.slice a C.length cap) C):CC Tryz.prog KK 139 [aggL [.string nm,.slice a C.length cap]] S (fun v S'=>Keep S S'∧(∃w1 w2,v=tupV [w1,w2,.int .i64 (partE nm.data.toList C).1]∧((partE nm.data.toList C).1=0→GrowI S S' w1 (firstsN C C.length)∧GrowI S S' w2 (lastsN C C.length)∧Apart [gLi w1 (firstsN C C.length),gLi w2 (lastsN C C.length)]))):=by
 refine cc_enter (c:=c139) (n:=61) Tryz.func139 rfl rfl rfl (by kernel_rfl) rfl rfl ?_
 have hl:=Hold.start S
 refine zg ?_;refine re_boxL hl rfl rfl rfl rfl rfl rfl ?_;intro B1 S1 hl;refine zg ?_
 refine zc hl rfl (spec49 nm a cap C hnm hn (hv.move (hl.since 0 rfl))) ?_;rintro v S1 hk1 rfl hl
 refine zg ?_
 constructor<;>intro h16
 ·
  refine zg ?_
  refine thn_ret (done_ret (ress_tmp rfl (ress_tmp rfl (ress_tmp rfl rfl))) ⟨hl.keep,⟨_,_,rfl,fun h=>absurd h (by simpa using h16)⟩⟩)
 refine xp_skip rfl ?_;refine zS ?_;refine xp_seq rfl ?_;refine zS ?_;refine xp_block rfl ?_
 -- LOOP
 have hl:=(hl.addG (g:=gLi (.slice none 0 0) []) (.inl ⟨rfl,rfl,rfl⟩)).addG (g:=gLi (.slice none 0 0) []) (.inl ⟨rfl,rfl,rfl⟩)
 refine xe_sub (L':=[(9,.int .i64 0),(8,.slice none (lastsN C 0).length (lastsN C 0).length),(7,.slice none (firstsN C 0).length (firstsN C 0).length),(4,.int .i64 0),(1,ptrTo B1 0)]) ⟨rfl,rfl,rfl,rfl,rfl,trivial⟩ ?_
 refine xp_loop rfl (fun m Le S'=>∃(i:Nat) (a1 a2:Option Addr),i≤C.length∧m=C.length-i∧SubE [(9,.int .i64 (i:Int)),(8,.slice a2 (lastsN C i).length (lastsN C i).length),(7,.slice a1 (firstsN C i).length (firstsN C i).length),(4,.int .i64 0),(1,ptrTo B1 0)] Le∧Apart [gLi (.slice a1 (firstsN C i).length (firstsN C i).length) (firstsN C i),gLi (.slice a2 (lastsN C i).length (lastsN C i).length) (lastsN C i)]∧HoldG S [S] S' [(B1,.cells [.string nm,.slice a C.length cap] 44 false true [])] [gLi (.slice a1 (firstsN C i).length (firstsN C i).length) (firstsN C i),gLi (.slice a2 (lastsN C i).length (lastsN C i).length) (lastsN C i)]) ?_ (m:=C.length) ⟨0,none,none,by omega,by omega,⟨rfl,rfl,rfl,rfl,rfl,trivial⟩,apart0 _ _,hl⟩
 clear hl;rintro m Le S' ⟨i,a1,a2,hi,rfl,hsub,hA,hl⟩;refine xe_sub hsub ?_
 refine zg ?_
 constructor<;>intro h22
 ·
  have hlt:i<C.length:=by have:=of_decide_eq_true h22;omega
  obtain⟨b,o,cs,rfl,hrow,hall⟩:=hv.row (by omega)
  refine zg ?_
  refine zc hl rfl (spec73 _ cap C i (hv.move (hl.since 0 rfl))) ?_;rintro v S1 hk1 rfl hl
  refine rr rfl (rd_un rfl rfl rfl) ?_;refine zg ?_
  constructor<;>intro h29
  ·
   refine xp_exit rfl ?_;refine xg (by kernel_rfl) ?_;refine rm rfl ?_;refine rr rfl (rd_bin rfl rfl rfl (i6 (by first|omega|(simp at *;omega)))) ?_;refine zg ?_
   have e1:firstsN C (i+1)=firstsN C i:=by rw[firstsN_succ,show tiedI C (i:Nat)=false by simpa using h29];exact List.append_nil _
   have e2:lastsN C (i+1)=lastsN C i:=by rw[lastsN_succ,show tiedI C (i:Nat)=false by simpa using h29];exact List.append_nil _
   exact⟨C.length-(i+1),by omega,i+1,a1,a2,by omega,rfl,by rw[e1,e2];exact⟨rfl,rfl,rfl,rfl,rfl,trivial⟩,by rw[e1,e2];exact hA,by rw[e1,e2];exact hl⟩
  refine xp_skip rfl ?_
  have hti:tiedI C (i:Nat)=true:=by simpa using h29
  refine xp_seq rfl (xe_cut (fun Le S'=>∃a3,SubE [(9,.int .i64 (i:Int)),(8,.slice a2 (lastsN C i).length (lastsN C i).length),(7,.slice a3 (firstsN C (i+1)).length (firstsN C (i+1)).length),(4,.int .i64 0),(1,ptrTo B1 0)] Le∧Apart [gLi (.slice a3 (firstsN C (i+1)).length (firstsN C (i+1)).length) (firstsN C (i+1)),gLi (.slice a2 (lastsN C i).length (lastsN C i).length) (lastsN C i)]∧HoldG S [S] S' [(B1,.cells [.string nm,.slice (some ⟨b,o,none⟩) C.length cap] 44 false true [])] [gLi (.slice a3 (firstsN C (i+1)).length (firstsN C (i+1)).length) (firstsN C (i+1)),gLi (.slice a2 (lastsN C i).length (lastsN C i).length) (lastsN C i)]) ?_ ?_)
  ·
   refine xp_seq rfl (xe_toE hl 44 (.bool (!openB C i)) ?_ rfl ?_)
   ·
    refine xg (by kernel_rfl) ?_;refine rr rfl (rd_fieldAddr rfl rfl (fa Tryz.underlying44 az44 rfl)) ?_;refine rr rfl (rl hl 0 rfl rfl (by kernel_rfl) rfl rfl) ?_;refine rm rfl ?_;refine rr rfl (rd_bin rfl rfl rfl (i6 (by first|omega|(simp at *;omega)))) ?_
    refine zc hl rfl (spec73 _ cap C ((i:Int)-1) (hv.move (hl.since 0 rfl))) ?_;rintro v S1 hk1 rfl hl
    refine rr rfl (rd_un rfl rfl rfl) ?_;refine zg ?_;refine re_bool (d:=36) rfl (fun h36=>?_) (fun h36=>?_)
    ·
     refine zg ?_
     exact⟨rfl,bl (by rw[open_no h36];rfl),by repeat (first|exact subL_refl _|refine subL_skip rfl ?_),hl⟩
    have hi1:1≤i:=by obtain⟨j,hj,_⟩:=tied_prev h36;omega
    refine rr rfl (rd_fieldAddr rfl rfl (fa Tryz.underlying44 az44 rfl)) ?_;refine rr rfl (rl hl 0 rfl rfl (by kernel_rfl) rfl rfl) ?_;refine rm rfl ?_;refine rr rfl (rd_bin rfl rfl rfl (i6 (by first|omega|(simp at *;omega)))) ?_;refine rr rfl (rd_indexAddr rfl rfl rfl (indexAddr_slice (z:=17) Tryz.underlying42 (by kernel_rfl) ⟨by first|omega|(simp at *;omega),by first|omega|(simp at *;omega)⟩)) ?_;refine zA ?_
    refine rr rfl (rd_load rfl rfl (load1_row (by kernel_rfl) (row_move (hl.since 0 rfl) hrow) (tk_nth (hall ((i:Int)-1) (by obtain⟨j,hj,_⟩:=tied_prev h36;omega) (by omega)) rfl))) ?_;refine zA ?_
    exact⟨rfl,bl (open_sg h36),by repeat (first|exact subL_refl _|refine subL_skip rfl ?_),hl⟩
   intro S1 hl
   refine zg ?_
   constructor<;>intro h44
   ·
    refine zg ?_;refine re_buildSliceR hl rfl rfl rfl rfl rfl Tryz.underlying38 rfl (c:=[iv (i:Int)]) (by kernel_rfl) ?_;intro B47 S1 hr47 hl;refine re_appendA hl hA 0 rfl rfl rfl rfl rfl rfl rfl rfl rfl Tryz.underlying38 Tryz.underlying38 rfl rfl (Nat.lt_succ_self 0) (by kernel_rfl) (src_row (new:=[iv (i:Int)]) hr47 rfl) rfl rfl (by kernel_rfl) (by show(firstsN C i).length+1≤maxNeed;unfold maxNeed;have:=firstsN_len C i;omega) ?_;intro v48 S1 hl hA;refine zg ?_
    have e1:firstsN C (i+1)=firstsN C i++[((i:Nat):Int)]:=by rw[firstsN_succ,hti,h44];rfl
    obtain⟨a3,rfl⟩:∃a3,v48= .slice a3 ((firstsN C i).length+1) ((firstsN C i).length+1):=Grow.is (hl.gr _ (List.mem_cons_self ..))
    refine⟨rfl,a3,?_⟩
    rw[e1]
    simp only[gLi,List.length_append,List.length_singleton,List.map_append,List.map_cons,List.map_nil]
    exact⟨⟨rfl,rfl,rfl,rfl,rfl,trivial⟩,hA,hl⟩
   refine zg ?_
   have e1:firstsN C (i+1)=firstsN C i:=by rw[firstsN_succ,hti,h44];exact List.append_nil _
   exact⟨rfl,a1,by rw[e1];exact⟨⟨rfl,rfl,rfl,rfl,rfl,trivial⟩,hA,hl⟩⟩
  rintro Le S1 ⟨a3,hsub2,hA,hl⟩;refine xe_sub hsub2 ?_
  refine xs (by kernel_rfl) ?_;refine rr rfl (rd_fieldAddr rfl rfl (fa Tryz.underlying44 az44 rfl)) ?_;refine rr rfl (rl hl 0 rfl rfl (by kernel_rfl) rfl rfl) ?_;refine rm rfl ?_;refine rr rfl (rd_indexAddr rfl rfl rfl (indexAddr_slice (z:=17) Tryz.underlying42 (by kernel_rfl) ⟨by first|omega|(simp at *;omega),by first|omega|(simp at *;omega)⟩)) ?_;refine rr rfl (rd_fieldAddr rfl rfl (fa Tryz.underlying55 az55 rfl)) ?_
  refine rr rfl (rd_load rfl rfl (load1_row (by kernel_rfl) (row_move (hl.since 0 rfl) hrow) (tk_nth (hall _ (by first|omega|(simp at *;omega)) (by first|omega|(simp at *;omega))) rfl))) ?_;refine re_end rfl ?_;refine zi tt rfl ?_
  constructor<;>intro h54
  ·
   refine zg ?_;refine re_buildSliceR hl rfl rfl rfl rfl rfl Tryz.underlying38 rfl (c:=[iv (i:Int)]) (by kernel_rfl) ?_;intro B57 S1 hr57 hl;refine re_appendA hl hA 1 rfl rfl rfl rfl rfl rfl rfl rfl rfl Tryz.underlying38 Tryz.underlying38 rfl rfl (Nat.lt_succ_self 0) (by kernel_rfl) (src_row (new:=[iv (i:Int)]) hr57 rfl) rfl rfl (by kernel_rfl) (by show(lastsN C i).length+1≤maxNeed;unfold maxNeed;have:=lastsN_len C i;omega) ?_;intro v58 S1 hl hA;refine rm rfl ?_;refine re_end rfl ?_;refine xg (by kernel_rfl) ?_;refine rm rfl ?_
   refine rr rfl (rd_bin rfl rfl rfl (i6 (by first|omega|(simp at *;omega)))) ?_;refine zg ?_
   have e2:lastsN C (i+1)=lastsN C i++[((i:Nat):Int)]:=by rw[lastsN_succ,hti,h54];rfl
   obtain⟨a4,rfl⟩:∃a4,v58= .slice a4 ((lastsN C i).length+1) ((lastsN C i).length+1):=Grow.is (hl.gr _ (List.mem_cons_of_mem _ (List.mem_cons_self ..)))
   refine⟨C.length-(i+1),by omega,i+1,a3,a4,by omega,rfl,?_⟩
   rw[e2]
   simp only[gLi,List.length_append,List.length_singleton,List.map_append,List.map_cons,List.map_nil]
   exact⟨⟨rfl,rfl,rfl,rfl,rfl,trivial⟩,hA,hl⟩
  refine xp_skip rfl ?_;refine xg (by kernel_rfl) ?_;refine rm rfl ?_;refine rr rfl (rd_bin rfl rfl rfl (i6 (by first|omega|(simp at *;omega)))) ?_;refine zg ?_
  have e2:lastsN C (i+1)=lastsN C i:=by rw[lastsN_succ,hti,h54];exact List.append_nil _
  exact⟨C.length-(i+1),by omega,i+1,a3,a2,by omega,rfl,by rw[e2];exact⟨rfl,rfl,rfl,rfl,rfl,trivial⟩,by rw[e2];exact hA,by rw[e2];exact hl⟩
 refine zg ?_
 refine done_ret (ress_tmp rfl (ress_tmp rfl (ress_tmp rfl rfl))) ⟨hl.keep,by
 have hi2:i=C.length:=by have:=of_decide_eq_false h22;omega
 subst hi2
 exact⟨_,_,by rw[show(partE nm.data.toList C).1=0 by simpa using h16],fun _=>⟨hl.gr _ (List.mem_cons_self ..),hl.gr _ (List.mem_cons_of_mem _ (List.mem_cons_self ..)),hA⟩⟩⟩
end Go.Proofs.YtmfphenhpkgidaaGreatDoor
namespace Go.Proofs.YtmfphenhpkgidaaGreatDoor
open Go.Cm Go
set_option maxRecDepth 100000
variable{S:St}
end Go.Proofs.YtmfphenhpkgidaaGreatDoor
namespace Go.Proofs.YtmfphenhpkgidaaGreatDoor
open Go.Cm Go
set_option maxRecDepth 100000
variable{S:St}
def scanN:Nat→List Sg→Int→Int→Int→Int×Int×Int
 |0,_,_,f,t=>(0,f,t)
 |n+1,C,i,f,t=>bif classI (sgI C i).kind==1 then scanN n C (i+1) (bif decide (f<0)then i else f) (i+1)
  else bif classI (sgI C i).kind==2 then(bif decide (f<0)then(13,f,t)else scanN n C (i+1) f (i+1))
  else scanN n C (i+1) f t
theorem scan_1{n:Nat}{C:List Sg}{i f t:Int}(h:(classI (sgI C i).kind==1)=true):scanN (n+1) C i f t=scanN n C (i+1) (bif decide (f<0)then i else f) (i+1):=by rw[scanN,h];rfl
theorem scan_2{n:Nat}{C:List Sg}{i f t:Int}(h:(classI (sgI C i).kind==1)=false)(h2:(classI (sgI C i).kind==2)=true)(h3:decide (f<0)=true):scanN (n+1) C i f t=(13,f,t):=by rw[scanN,h,h2,h3];rfl
theorem scan_3{n:Nat}{C:List Sg}{i f t:Int}(h:(classI (sgI C i).kind==1)=false)(h2:(classI (sgI C i).kind==2)=true)(h3:decide (f<0)=false):scanN (n+1) C i f t=scanN n C (i+1) f (i+1):=by rw[scanN,h,h2,h3];rfl
theorem scan_4{n:Nat}{C:List Sg}{i f t:Int}(h:(classI (sgI C i).kind==1)=false)(h2:(classI (sgI C i).kind==2)=false):scanN (n+1) C i f t=scanN n C (i+1) f t:=by rw[scanN,h,h2];rfl
def noM(a b c d:Int):Bool:=(a==0)&&((b==0)&&((c==0)&&((d==0)&&true)))
def wholeE(C:List Sg)(p q:Nat)(a b c d:Int):Int×Int×Int :=
 bif (scanN (q-p) C p (-1) 0).1 !=0 then scanN (q-p) C p (-1) 0 else bif decide ((scanN (q-p) C p (-1) 0).2.1≥0)&&noM a b c d then(12,(scanN (q-p) C p (-1) 0).2)else scanN (q-p) C p (-1) 0
def secCells(f t a b c d:Int):List Value:=[.int .i64 f,.int .i64 t,.int .i64 a,.int .i64 b,.int .i64 c,.int .i64 d,.int .i64 0,.int .i64 0]
noncomputable def c216:Code:=Tryz.f216.body.getD .skip
theorem spec216(a:Option Addr)(cap:Nat)(C:List Sg)(p q:Nat)(ma mb mc md:Int)(hn:C.length≤1000)(hpq:p≤q)(hq:q≤C.length)(hv:Signs S (.slice a C.length cap) C):CC Tryz.prog KK 216 [.slice a C.length cap,.int .i64 p,.int .i64 q,aggL [.int .i64 ma,.int .i64 mb,.int .i64 mc,.int .i64 md]] S (fun v S'=>Keep S S'∧v=tupV [aggL (secCells (wholeE C p q ma mb mc md).2.1 (wholeE C p q ma mb mc md).2.2 ma mb mc md),.int .i64 (wholeE C p q ma mb mc md).1]):=by
 refine cc_enter (c:=c216) (n:=54) Tryz.func216 rfl rfl rfl (by kernel_rfl) rfl rfl ?_
 have hl:=Hold.start S
 refine zg ?_;refine re_boxL hl rfl rfl rfl rfl rfl rfl ?_;intro B7 S7 hl;refine re_allocL hl rfl rfl rfl rfl rfl (z:=[.int .i64 0,.int .i64 0,.int .i64 0,.int .i64 0,.int .i64 0,.int .i64 0,.int .i64 0,.int .i64 0]) (by kernel_rfl) ?_;intro B8 S8 hl;refine zg ?_;refine rr rfl (rd_build rfl rfl (v:=aggL (secCells (-1) 0 ma mb mc md)) (by rfl)) ?_;refine re_allocL hl rfl rfl rfl rfl rfl (z:=[.int .i64 0,.int .i64 0,.int .i64 0,.int .i64 0,.int .i64 0,.int .i64 0,.int .i64 0,.int .i64 0]) (by kernel_rfl) ?_;intro B10 S10 hl
 refine re_storeL hl 0 rfl rfl rfl rfl rfl rfl rfl (by kernel_rfl) rfl ?_;intro S1 hl;refine zA ?_;refine xp_seq rfl ?_;refine zS ?_;refine xp_block rfl ?_
 -- LOOP
 refine xe_sub (L':=[(11,.int .i64 p),(10,ptrTo B10 0),(9,.int .i64 0),(8,ptrTo B8 0),(7,ptrTo B7 0),(0,.slice a C.length cap),(2,.int .i64 q)]) ⟨rfl,rfl,rfl,rfl,rfl,rfl,rfl,trivial⟩ ?_
 refine xp_loop rfl (fun m Le S'=>∃(i:Nat) (f g:Int),p≤i∧i≤q∧m=q-i∧SubE [(11,.int .i64 (i:Int)),(10,ptrTo B10 0),(9,.int .i64 0),(8,ptrTo B8 0),(7,ptrTo B7 0),(0,.slice a C.length cap),(2,.int .i64 q)] Le∧scanN (q-i) C i f g=scanN (q-p) C p (-1) 0∧HoldG S [S] S' [(B10,.cells (secCells f g ma mb mc md) 163 false true []),(B8,.cells [.int .i64 0,.int .i64 0,.int .i64 0,.int .i64 0,.int .i64 0,.int .i64 0,.int .i64 0,.int .i64 0] 163 false true []),(B7,.cells [.int .i64 ma,.int .i64 mb,.int .i64 mc,.int .i64 md] 51 false true [])] []) ?_ (m:=q-p) ⟨p, -1,0,Nat.le_refl _,hpq,rfl,⟨rfl,rfl,rfl,rfl,rfl,rfl,rfl,trivial⟩,rfl,hl⟩
 clear hl;rintro m Le S' ⟨i,f,g,hpi,hi,rfl,hsub,hpr,hl⟩;refine xe_sub hsub ?_
 refine zg ?_
 constructor<;>intro h17
 ·
  have hlt:i<q:=by have:=of_decide_eq_true h17;omega
  obtain⟨b,o,cs,rfl,hrow,hall⟩:=hv.row (by omega)
  have hqi:q-i=(q-(i+1))+1:=by omega
  refine xp_skip rfl ?_;refine xp_seq rfl ?_;refine xp_block rfl ?_;refine xs (by kernel_rfl) ?_;iterate 2 refine rm rfl ?_
  refine rr rfl (rd_indexAddr rfl rfl rfl (indexAddr_slice (z:=17) Tryz.underlying42 (by kernel_rfl) ⟨by first|omega|(simp at *;omega),by first|omega|(simp at *;omega)⟩)) ?_;refine rr rfl (rd_load rfl rfl (loadN_row (z:=17) (by kernel_rfl) (by kernel_rfl) (row_move (hl.since 0 rfl) hrow) (hall _ (by first|omega|(simp at *;omega)) (by first|omega|(simp at *;omega))))) ?_
  refine re_callL hl rfl rfl rfl rfl rfl rfl rfl (spec141 (sgI C i)) ?_;rintro v S1 hk1 rfl hl
  refine zA ?_;refine xp_block rfl ?_;refine zS ?_;refine zi tt rfl ?_
  constructor<;>intro h25
  ·
   refine xp_seq rfl (xe_to0 (fun S'=>HoldG S [S] S' [(B10,.cells (secCells (bif decide (f<0)then(i:Int)else f) g ma mb mc md) 163 false true []),(B8,.cells [.int .i64 0,.int .i64 0,.int .i64 0,.int .i64 0,.int .i64 0,.int .i64 0,.int .i64 0,.int .i64 0] 163 false true []),(B7,.cells [.int .i64 ma,.int .i64 mb,.int .i64 mc,.int .i64 md] 51 false true [])] []) ?_ ?_)
   ·
    refine zg ?_
    constructor<;>intro h29
    ·
     refine zg ?_;refine re_storeL hl 0 rfl rfl rfl rfl rfl rfl rfl (by kernel_rfl) rfl ?_;intro S1 hl;refine zg ?_
     exact⟨rfl,by repeat (first|exact subL_refl _|refine subL_skip rfl ?_),by rw[h29];exact hl⟩
    refine zg ?_
    exact⟨rfl,by repeat (first|exact subL_refl _|refine subL_skip rfl ?_),by rw[h29];exact hl⟩
   intro S1 hl
   refine xg (by kernel_rfl) ?_;refine rm rfl ?_;refine rr rfl (rd_bin rfl rfl rfl (i6 (by first|omega|(simp at *;omega)))) ?_;refine zg ?_;refine re_storeL hl 0 rfl rfl rfl rfl rfl rfl rfl (by kernel_rfl) rfl ?_;intro S1 hl;refine re_end rfl ?_;refine xg (by kernel_rfl) ?_;refine rm rfl ?_;refine rr rfl (rd_bin rfl rfl rfl (i6 (by first|omega|(simp at *;omega)))) ?_;refine zg ?_
   exact⟨q-(i+1),by omega,i+1,(bif decide (f<0)then(i:Int)else f),(i:Int)+1,by omega,by omega,rfl,⟨rfl,rfl,rfl,rfl,rfl,rfl,rfl,trivial⟩,by rw[←hpr,hqi,scan_1 h25];rfl,hl⟩
  refine zg ?_
  constructor<;>intro h35
  ·
   refine zg ?_
   constructor<;>intro h39
   refine zg ?_;refine re_storeL hl 1 rfl rfl rfl rfl rfl rfl rfl (by kernel_rfl) rfl ?_;intro S1 hl;refine zg ?_
   refine thn_ret (blk_ret (blk_ret (thn_ret (round_ret (blk_ret (thn_ret (done_ret (ress_cell rfl (loadN_of (z:=8) (by kernel_rfl) (by kernel_rfl) (hl.get 1 rfl) rfl) (ress_tmp rfl rfl)) ⟨hl.keep,by
  have e:scanN (q-p) C p (-1) 0=(13,f,g):=by rw[←hpr,hqi,scan_2 h25 h35 h39]
  unfold wholeE;rw[e];rfl⟩)))))))
   ·
    refine xp_skip rfl ?_;refine xg (by kernel_rfl) ?_;refine rm rfl ?_;refine rr rfl (rd_bin rfl rfl rfl (i6 (by first|omega|(simp at *;omega)))) ?_;refine zg ?_;refine re_storeL hl 0 rfl rfl rfl rfl rfl rfl rfl (by kernel_rfl) rfl ?_;intro S1 hl;refine re_end rfl ?_;refine xg (by kernel_rfl) ?_;refine rm rfl ?_;refine rr rfl (rd_bin rfl rfl rfl (i6 (by first|omega|(simp at *;omega)))) ?_;refine zg ?_
    exact⟨q-(i+1),by omega,i+1,f,(i:Int)+1,by omega,by omega,rfl,⟨rfl,rfl,rfl,rfl,rfl,rfl,rfl,trivial⟩,by rw[←hpr,hqi,scan_3 h25 h35 h39];rfl,hl⟩
  refine xp_skip rfl ?_;refine xg (by kernel_rfl) ?_;refine rm rfl ?_;refine rr rfl (rd_bin rfl rfl rfl (i6 (by first|omega|(simp at *;omega)))) ?_;refine zg ?_
  exact⟨q-(i+1),by omega,i+1,f,g,by omega,by omega,rfl,⟨rfl,rfl,rfl,rfl,rfl,rfl,rfl,trivial⟩,by rw[←hpr,hqi,scan_4 h25 h35];rfl,hl⟩
 refine xp_exit rfl ?_;refine xp_seq rfl ?_;refine xp_seq rfl (xe_toE hl 51 (.bool (decide (f≥0)&&noM ma mb mc md)) ?_ rfl ?_)
 ·
  refine zg ?_;refine re_bool (d:=47) rfl (fun h47=>?_) (fun h47=>?_)
  ·
   refine zg ?_;refine rr rfl (rd_build rfl rfl (v:=aggL [.int .i64 0,.int .i64 0,.int .i64 0,.int .i64 0]) (by rfl)) ?_;refine rr rfl (rd_bin rfl rfl rfl (bin_eq (by kernel_rfl) (eqMens _ ma mb mc md 0 0 0 0))) ?_;refine zg ?_
   exact⟨rfl,bl (by unfold noM;simp only[h47,BLs]),by repeat (first|exact subL_refl _|refine subL_skip rfl ?_),hl⟩
  refine zg ?_
  exact⟨rfl,bl (by unfold noM;simp only[h47,BLs]),by repeat (first|exact subL_refl _|refine subL_skip rfl ?_),hl⟩
 intro S1 hl
 refine zg ?_
 constructor<;>intro h51
 ·
  refine zg ?_;refine re_storeL hl 1 rfl rfl rfl rfl rfl rfl rfl (by kernel_rfl) rfl ?_;intro S1 hl;refine zg ?_
  refine thn_ret (done_ret (ress_cell rfl (loadN_of (z:=8) (by kernel_rfl) (by kernel_rfl) (hl.get 1 rfl) rfl) (ress_tmp rfl rfl)) ⟨hl.keep,by
  have e:scanN (q-p) C p (-1) 0=(0,f,g):=by rw[←hpr,show q-i=0 by have:=of_decide_eq_false h17;omega];rfl
  unfold wholeE;rw[e];simp only[bne_self_eq_false,cond_false,h51,cond_true];rfl⟩)
 refine zg ?_;refine re_storeL hl 1 rfl rfl rfl rfl rfl rfl rfl (by kernel_rfl) rfl ?_;intro S1 hl;refine zg ?_
 refine done_ret (ress_cell rfl (loadN_of (z:=8) (by kernel_rfl) (by kernel_rfl) (hl.get 1 rfl) rfl) (ress_tmp rfl rfl)) ⟨hl.keep,by
 have e:scanN (q-p) C p (-1) 0=(0,f,g):=by rw[←hpr,show q-i=0 by have:=of_decide_eq_false h17;omega];rfl
 unfold wholeE;rw[e];simp only[bne_self_eq_false,cond_false,h51];rfl⟩
end Go.Proofs.YtmfphenhpkgidaaGreatDoor
namespace Go.Proofs.YtmfphenhpkgidaaGreatDoor
open Go.Cm Go
set_option maxRecDepth 100000
variable{S:St}
end Go.Proofs.YtmfphenhpkgidaaGreatDoor
namespace Go.Proofs.YtmfphenhpkgidaaGreatDoor
open Go.Cm Go
set_option maxRecDepth 100000
variable{S:St}
theorem sgI_some{C:List Sg}{i:Nat}(h:i<C.length):nth C i=some (sgI C (i:Nat)):=by
 obtain⟨s,hs⟩:=nth_some h
 rw[hs,sgI_at hs]
theorem runE_ok:∀(r:List Sg) (b:Bool) (i:Nat),(runE b r i).1=0→∀j s,nth r j=some s→one s=0∧(s.kind=4→s.last=false→∃s2,nth r (j+1)=some s2∧s2.kind=4)
 | [],_,_,_,j,s,hs=>by cases j<;>cases hs
 |x::r,b,i,h,j,s,hs=>by
  cases h1:(one x !=0)with
  |true =>
   rw[runE,h1]at h
   have h':one x=0:=h
   rw[h']at h1;cases h1
  |false =>
   have ho:one x=0:=by simpa using h1
   have hh:∀b',(runE b' r (i+1)).1=0→(x.kind=4→x.last=false→nextT r=true)→one s=0∧(s.kind=4→s.last=false→∃s2,nth (x::r) (j+1)=some s2∧s2.kind=4):=by
    intro b' hb hn
    cases j with
    |succ j=>exact runE_ok r b' (i+1) hb j s hs
    |zero =>
     cases hs
     refine⟨ho,fun k1 k2=>?_⟩
     have:=hn k1 k2
     cases r with
     |nil=>cases this
     |cons y r=>exact⟨y,rfl,by simpa [nextT]using this⟩
   cases h2:(x.kind !=4)with
   |true =>
    rw[runE_2 h1 h2]at h
    exact hh b h fun k1 _=>by rw[k1]at h2;cases h2
   |false =>
    cases h3:(x.last&&!b)with
    |true=>rw[runE_3 h1 h2 h3]at h;cases h
    |false =>
     cases h4:x.last with
     |true =>
      rw[runE_4 h1 h2 h3 h4]at h
      exact hh false h fun _ k2=>by rw[h4]at k2;cases k2
     |false =>
      cases h5:nextT r with
      |true =>
       rw[runE_6 h1 h2 h3 h4 (by rw[h5];rfl)]at h
       exact hh true h fun _ _=>h5
      |false=>rw[runE_5 h1 h2 h3 h4 (by rw[h5];rfl)]at h;cases h
structure LigOk(C:List Sg):Prop where
 next:∀i:Nat,i<C.length→(sgI C (i:Nat)).kind=4→(sgI C (i:Nat)).last=false→i+1<C.length∧(sgI C ((i+1:Nat):Int)).kind=4
 ok:∀i:Nat,i<C.length→one (sgI C (i:Nat))=0
theorem ligOk{nm:List UInt8}{C:List Sg}(h:(partE nm C).1=0):LigOk C:=by
 have h0:(runE false C 0).1=0:=by
  unfold partE at h
  cases h1:!nameF nm with
  |true=>rw[h1]at h;cases h
  |false =>
   cases h2:decide ((C.length:Int)>400)with
   |true=>rw[h1,h2]at h;cases h
   |false=>rw[h1,h2]at h;exact h
 refine⟨fun i hi hk hl=>?_,fun i hi=>(runE_ok C false 0 h0 i _ (sgI_some hi)).1⟩
 obtain⟨s2,e1,e2⟩:=(runE_ok C false 0 h0 i _ (sgI_some hi)).2 hk hl
 exact⟨nth_lt e1,by rw[sgI_at e1];exact e2⟩
theorem tied_sg{C:List Sg}{i:Nat}(h:i<C.length):tiedI C (i:Nat)=((sgI C (i:Nat)).kind==4):=by
 unfold tiedI
 rw[decide_eq_true (show(i:Int)≥0 by omega),decide_eq_true (show(i:Int)<C.length by omega),show((i:Int)).toNat=i from rfl,sgI_some h]
 rfl
theorem open_sg1{C:List Sg}{i:Nat}(h:i<C.length):openB C (i+1)=(((sgI C (i:Nat)).kind==4)&&!(sgI C (i:Nat)).last):=open_at (sgI_some h)
def lastN:Nat→List Sg→Nat→Nat
 |0,_,i=>i
 |n+1,C,i=>bif (sgI C (i:Nat)).last then i else lastN n C (i+1)
def prsN:Nat→List Sg→Nat→List (Nat×Nat)
 |0,_,_=>[]
 |n+1,C,i=>bif decide (i<C.length)then(bif (sgI C (i:Nat)).kind==4 then(i,lastN C.length C i)::prsN n C (lastN C.length C i+1)else prsN n C (i+1))else []
def fsI(C:List Sg):Nat→Nat→List Int
 |0,_=>[]
 |n+1,i=>(bif tiedI C (i:Nat)&&!openB C i then [((i:Nat):Int)]else [])++fsI C n (i+1)
def lsI(C:List Sg):Nat→Nat→List Int
 |0,_=>[]
 |n+1,i=>(bif tiedI C (i:Nat)&&(sgI C (i:Nat)).last then [((i:Nat):Int)]else [])++lsI C n (i+1)
theorem fsI_eq(C:List Sg):∀(n i:Nat),((List.range' i n).filter fun j=>tiedI C (j:Nat)&&!openB C j).map (fun j=>((j:Nat):Int))=fsI C n i
 |0,_=>rfl
 |n+1,i=>by
  rw[List.range'_succ,List.filter_cons,fsI,←fsI_eq C n (i+1)]
  cases (tiedI C (i:Nat)&&!openB C i)<;>rfl
theorem lsI_eq(C:List Sg):∀(n i:Nat),((List.range' i n).filter fun j=>tiedI C (j:Nat)&&(sgI C (j:Nat)).last).map (fun j=>((j:Nat):Int))=lsI C n i
 |0,_=>rfl
 |n+1,i=>by
  rw[List.range'_succ,List.filter_cons,lsI,←lsI_eq C n (i+1)]
  cases (tiedI C (i:Nat)&&(sgI C (i:Nat)).last)<;>rfl
structure Lig1(C:List Sg)(i k:Nat):Prop where
 le:i≤k
 lt:k<C.length
 last:(sgI C (k:Nat)).last=true
 no:∀j:Nat,i≤j→j<k→(sgI C (j:Nat)).last=false
 shut:openB C (k+1)=false
 ls:lsI C (C.length-i) i=(k:Int)::lsI C (C.length-(k+1)) (k+1)
 fs:fsI C (C.length-(i+1)) (i+1)=fsI C (C.length-(k+1)) (k+1)
theorem lig1{C:List Sg}(hC:LigOk C):∀(m i:Nat),i<C.length→C.length-i≤m→(sgI C (i:Nat)).kind=4→Lig1 C i (lastN m C i)
 |0,i,hi,hm,_=>by omega
 |m+1,i,hi,hm,hk=>by
  have ht:tiedI C (i:Nat)=true:=by rw[tied_sg hi,hk];rfl
  have hn:C.length-i=(C.length-(i+1))+1:=by omega
  cases hl:(sgI C (i:Nat)).last with
  |true =>
   rw[show lastN (m+1) C i=i by rw[lastN,hl];rfl]
   refine⟨Nat.le_refl _,hi,hl,fun j h1 h2=>by omega,by rw[open_sg1 hi,hl,Bool.not_true,Bool.and_false],?_,rfl⟩
   rw[hn,lsI,ht,hl];rfl
  |false =>
   rw[show lastN (m+1) C i=lastN m C (i+1) by rw[lastN,hl];rfl]
   obtain⟨h1,h2⟩:=hC.next i hi hk hl
   have h:=lig1 hC m (i+1) h1 (by omega) h2
   have ho:openB C (i+1)=true:=by rw[open_sg1 hi,hk,hl];rfl
   refine⟨by have:=h.le;omega,h.lt,h.last,fun j h3 h4=>?_,h.shut,?_,?_⟩
   ·by_cases e:j=i
    ·rw[e];exact hl
    exact h.no j (by omega) h4
   ·rw[hn,lsI,ht,hl,←h.ls];rfl
   rw[show C.length-(i+1)=(C.length-(i+1+1))+1 by omega,fsI,ho,←h.fs]
   simp
theorem prs_eq{C:List Sg}(hC:LigOk C):∀(n i:Nat),C.length-i≤n→openB C i=false→fsI C (C.length-i) i=(prsN n C i).map (fun p=>(p.1:Int))∧lsI C (C.length-i) i=(prsN n C i).map (fun p=>(p.2:Int))∧∀p,p∈prsN n C i→i≤p.1∧p.1≤p.2∧p.2<C.length
 |0,i,hn,_=>by
  rw[show C.length-i=0 by omega]
  exact⟨rfl,rfl,fun p hp=>(List.not_mem_nil hp).elim⟩
 |n+1,i,hn,ho=>by
  by_cases hi:i<C.length
  ·have hq:C.length-i=(C.length-(i+1))+1:=by omega
   cases hk:((sgI C (i:Nat)).kind==4)with
   |true =>
    have h:=lig1 hC C.length i hi (by omega) (by simpa using hk)
    obtain⟨h1,h2,h3⟩:=prs_eq hC n (lastN C.length C i+1) (by have:=h.le;omega) h.shut
    have e:prsN (n+1) C i=(i,lastN C.length C i)::prsN n C (lastN C.length C i+1):=by rw[prsN,decide_eq_true hi,hk];rfl
    refine⟨?_,?_,fun p hp=>?_⟩
    ·rw[e,hq,fsI,tied_sg hi,hk,ho,h.fs,h1];rfl
    ·rw[e,h.ls,h2];rfl
    rw[e]at hp
    rcases List.mem_cons.1 hp with rfl|hp
    ·exact⟨Nat.le_refl _,h.le,h.lt⟩
    have:=h3 p hp
    have:=h.le
    exact⟨by omega,by omega,by omega⟩
   |false =>
    have ho':openB C (i+1)=false:=by rw[open_sg1 hi,hk];rfl
    obtain⟨h1,h2,h3⟩:=prs_eq hC n (i+1) (by omega) ho'
    have e:prsN (n+1) C i=prsN n C (i+1):=by rw[prsN,decide_eq_true hi,hk];rfl
    refine⟨?_,?_,fun p hp=>?_⟩
    ·rw[e,hq,fsI,tied_sg hi,hk,h1];rfl
    ·rw[e,hq,lsI,tied_sg hi,hk,h2];rfl
    rw[e]at hp
    have:=h3 p hp
    exact⟨by omega,this.2⟩
  have e:prsN (n+1) C i= []:=by rw[prsN,decide_eq_false hi];rfl
  rw[e,show C.length-i=0 by omega]
  exact⟨rfl,rfl,fun p hp=>(List.not_mem_nil hp).elim⟩
def prs(C:List Sg):List (Nat×Nat):=prsN C.length C 0
theorem prs_firsts{C:List Sg}(hC:LigOk C):firstsN C C.length=(prs C).map (fun p=>(p.1:Int)):=by
 have h:=(prs_eq hC C.length 0 (by omega) rfl).1
 unfold firstsN prs
 rw[fsI_eq,←h];rfl
theorem prs_lasts{C:List Sg}(hC:LigOk C):lastsN C C.length=(prs C).map (fun p=>(p.2:Int)):=by
 have h:=(prs_eq hC C.length 0 (by omega) rfl).2.1
 unfold lastsN prs
 rw[lsI_eq,←h];rfl
theorem prs_mem{C:List Sg}(hC:LigOk C){p:Nat×Nat}(hp:p∈prs C):p.1≤p.2∧p.2<C.length:=((prs_eq hC C.length 0 (by omega) rfl).2.2 p hp).2
theorem prs_len{C:List Sg}(hC:LigOk C):(prs C).length≤C.length:=by
 have h:=congrArg List.length (prs_firsts hC)
 rw[List.length_map]at h
 have:=firstsN_len C C.length
 omega
def segm(C:List Sg)(f l:Nat):List Sg:=(C.drop f).take (l+1-f)
def noteV(s:Sg)(v:Int):Sg:={kind:=1,value:=v,place:=s.place,acc:=s.acc,color:=s.color,stem:=0,oblique:=false,last:=false,mx:=0,md:=0,tm:=0,pr:=0,stroke:=false,n:=0,d:=0,step:=0,line:=0}
def putN(C W:List Sg)(f:Nat):Nat→Nat→List Sg→List Sg
 |0,_,D=>D
 |n+1,j,D=>putN C W f n (j+1) (D.set (f+j) (noteV (sgI C ((f+j:Nat):Int)) (ligValue W (j:Nat))))
def expL(C:List Sg):List (Nat×Nat)→List Sg→Int×List Sg
 | [],D=>(0,D)
 |p::r,D=>bif (ligCheck (segm C p.1 p.2)).1 !=0 then((ligCheck (segm C p.1 p.2)).1,[])else expL C r (putN C (segm C p.1 p.2) p.1 (p.2+1-p.1) 0 D)
def expE(nm:List UInt8)(C:List Sg):Int×List Sg:=bif (partE nm C).1 !=0 then((partE nm C).1,[])else expL C (prs C) C
theorem expL_err{C D:List Sg}{p:Nat×Nat}{r:List (Nat×Nat)}(h:((ligCheck (segm C p.1 p.2)).1 !=0)=true):expL C (p::r) D=((ligCheck (segm C p.1 p.2)).1,[]):=by rw[expL,h];rfl
theorem expL_go{C D:List Sg}{p:Nat×Nat}{r:List (Nat×Nat)}(h:((ligCheck (segm C p.1 p.2)).1 !=0)=false):expL C (p::r) D=expL C r (putN C (segm C p.1 p.2) p.1 (p.2+1-p.1) 0 D):=by rw[expL,h];rfl
theorem segm_len{C:List Sg}{f l:Nat}(h:l<C.length)(hf:f≤l):(segm C f l).length=l+1-f:=by
 unfold segm
 rw[List.length_take,List.length_drop];omega
theorem setN_skip{a:Value}{z:List Value}{c:List Value}:∀(p:List Value) {k:Nat} {r:List Value},setN k (a::z) c=some r→setN (p.length+k) (a::z) (p++c)=some (p++r)
 | [],k,r,h=>by simpa using h
 |x::p,k,r,h=>by
  rw[show(x::p).length+k=(p.length+k)+1 by simp only[List.length_cons];omega]
  have e:=setN_skip p h
  simp only[List.cons_append,setN,e]
theorem setN_front:∀(z y r:List Value),z.length=y.length→setN 0 z (y++r)=some (z++r)
 | [],[],r,_=>by simp only[List.nil_append,setN]
 | [],_::_,_,h=>by simp at h
 |_::_,[],_,h=>by simp at h
 |a::z,b::y,r,h=>by
  have e:=setN_front z y r (by simpa using h)
  simp only[List.cons_append,setN,e]
theorem setN_sign(x:Sg):∀(D:List Sg) (i:Nat),i<D.length→setN (i*17) x.cells (D.map Sg.cells).flatten=some ((D.set i x).map Sg.cells).flatten
 | [],i,h=>by simp at h
 |y::D,0,_=>by
  rw[Nat.zero_mul]
  simpa only[List.map_cons,List.flatten_cons,List.set_cons_zero]using setN_front x.cells y.cells (D.map Sg.cells).flatten rfl
 |y::D,i+1,h=>by
  have e:setN (y.cells.length+i*17) x.cells (y.cells++(D.map Sg.cells).flatten)=some (y.cells++((D.set i x).map Sg.cells).flatten):=setN_skip y.cells (setN_sign x D i (by simpa using h))
  rw[show y.cells.length+i*17=(i+1)*17 by rw[cells17];omega]at e
  exact e
end Go.Proofs.YtmfphenhpkgidaaGreatDoor
namespace Go.Proofs.YtmfphenhpkgidaaGreatDoor
open Go.Cm Go
set_option maxRecDepth 100000
variable{S:St}
end Go.Proofs.YtmfphenhpkgidaaGreatDoor
namespace Go.Proofs.YtmfphenhpkgidaaGreatDoor
open Go.Cm Go
set_option maxRecDepth 100000
variable{S:St}
theorem nth_drop_:∀{α:Type} {l:List α} {n k:Nat},nth (l.drop n) k=nth l (n+k)
 |_,l,0,k=>by rw[List.drop_zero,Nat.zero_add]
 |_,[],n+1,k=>by rw[List.drop_nil,nth_none (by simp),nth_none (by simp)]
 |_,x::l,n+1,k=>by
  rw[List.drop_succ_cons,nth_drop_,show n+1+k=(n+k)+1 by omega]
  rfl
theorem Signs.mid{S:St}{a:Option Addr}{cap:Nat}{C:List Sg}(h:Signs S (.slice a C.length cap) C){f l:Nat}{x y:Int}(hf:f≤l)(hl:l<C.length)(hx:x=(f:Int))(hy:y=(l:Int)+1) :
  ∃a2 cap',sliceV Tryz.prog 42 (.slice a C.length cap) (some (.int .i64 x)) (some (.int .i64 y)) none S=some (.slice a2 (segm C f l).length cap')∧Signs S (.slice a2 (segm C f l).length cap') (segm C f l):=by
 have hlen:=segm_len hl hf
 rcases h with ⟨h1,_⟩|⟨b,o,cap0,cs,e1,hcap,⟨hb,own,kin,hg⟩,h3⟩
 ·rw[List.map_eq_nil_iff.1 h1]at hl;simp at hl
 rw[List.length_map]at e1 hcap
 cases e1
 refine⟨some ⟨b,o+f*17,none⟩,cap-f,?_,.inr ⟨b,o+f*17,cap-f,cs,?_,?_,⟨hb,own,kin,hg⟩,fun j z hz=>?_⟩⟩
 ·rw[hlen]
  unfold sliceV
  have hz:szOf Tryz.prog 55=some 17:=by kernel_rfl
  have hb3:bounds3 C.length cap (some (.int .i64 x)) (some (.int .i64 y)) none=some (f,l+1,cap):=by
   unfold bounds3 sliceBnd
   subst hx
   subst hy
   simp only
   rw[if_pos ⟨by omega,by omega⟩]
   simp only
   rw[show((l:Int)+1).toNat=l+1 by omega,if_pos ⟨by omega,by omega⟩]
   rfl
  have hr:rowSize Tryz.prog S b 17=true:=by
   unfold rowSize
   rw[hg]
   simp only[hz]
   rfl
  simp only[Tryz.underlying42,hz,hb3,hr,cond_true,Option.isSome_none,Bool.false_and,cond_false]
 ·rw[List.length_map]
 ·rw[List.length_map,hlen];omega
 obtain⟨s,hs⟩:∃s,nth (segm C f l) j=some s:=nth_some (by have:=nth_lt hz;rwa [List.length_map]at this)
 rw[nth_map Sg.cells hs]at hz
 cases hz
 have h4:nth C (f+j)=some s:=by rw[←nth_drop_];exact nth_take hs
 have:=h3 (f+j) _ (nth_map Sg.cells h4)
 rw[show o+f*17+j*17=o+(f+j)*17 by omega]
 exact this
theorem HoldG.own1{S S':St}(hk:Keep S S'){b:Nat}{x:Blk}(h1:S.size≤b)(h2:b<S'.size)(h3:S'.get b=some x):HoldG S [S] S' [(b,x)] [] :=
 ⟨hk,List.nodup_cons.2 ⟨List.not_mem_nil,List.nodup_nil⟩,fun c y hc=>by cases List.mem_singleton.1 hc;exact⟨h3,h1,h2⟩,fun T hT=>by rw[List.mem_singleton.1 hT];exact hk.rk,fun g hg=>(List.not_mem_nil hg).elim⟩
theorem GrowI.own{S S':St}(hk:Keep S S'){v:Value}{l:List Int}(h:GrowI S S' v l)(hne:0<l.length):∃b kin,v= .slice (some ⟨b,0,none⟩) l.length l.length∧HoldG S [S] S' [(b,.cells (l.map iv) 3 true true kin)] []:=by
 rcases h with ⟨_,h,_⟩|⟨b,kin,h1,h2,h3,h4,_⟩
 ·rw[List.map_eq_nil_iff.1 h]at hne;simp at hne
 exact⟨b,kin,h1,HoldG.own1 hk h2 h3 h4⟩
def TLp(aw:Option Addr)(D:List Sg)(tl:List (Nat×Blk)):Prop:=(D= []∧aw=none∧tl= []) ∨
 ∃b ks tl2,aw=some ⟨b,0,none⟩∧tl=(b,.cells (D.map Sg.cells).flatten 55 true true ks)::tl2∧(0<D.length→tl2=deadL 55 ks)
theorem TLp.pos{aw:Option Addr}{D:List Sg}{tl:List (Nat×Blk)}(h:TLp aw D tl)(hne:0<D.length):∃b ks,aw=some ⟨b,0,none⟩∧tl=(b,.cells (D.map Sg.cells).flatten 55 true true ks)::deadL 55 ks:=by
 rcases h with ⟨h,_⟩|⟨b,ks,tl2,h1,h2,h3⟩
 ·rw[h]at hne;simp at hne
 exact⟨b,ks,h1,by rw[h2,h3 hne]⟩
theorem TLp.put{b:Nat}{D:List Sg}:TLp (some ⟨b,0,none⟩) D ([(b,.cells (D.map Sg.cells).flatten 55 true true [])]:List (Nat×Blk)):= .inr ⟨b,[],[],rfl,rfl,fun _=>rfl⟩
theorem TLp.signs{S0 S:St}{Ts:List St}{r tl:List (Nat×Blk)}{gs:List Gr}{aw:Option Addr}{D:List Sg}(h:TLp aw D tl)(hl:HoldG S0 Ts S (r++tl) gs):Signs S (.slice aw D.length D.length) D:=by
 rcases h with ⟨rfl,rfl,_⟩|⟨b,ks,tl2,rfl,rfl,_⟩
 ·exact .inl ⟨rfl,.inl rfl⟩
 have:=hl.at_ b _ (List.mem_append.2 (.inr (List.mem_cons_self ..)))
 exact GrowS.signs (S0:=S0) (.inr ⟨b,ks,rfl,this.2.1,this.2.2,this.1,flat17 D⟩)
theorem set_sign{D:List Sg}{i:Nat}{k:Int}(x:Sg)(hk:k=(i:Int))(h:i<D.length):setN (0+k.toNat*17) (cellsL x.v) (D.map Sg.cells).flatten=some ((D.set i x).map Sg.cells).flatten:=by
 subst hk
 rw[Nat.zero_add]
 exact setN_sign x D i h
theorem vals_at{C:List Sg}{j:Nat}(h:j<C.length):nth ((ligValues C).map iv) (0+((j:Nat):Int).toNat*1)=some (.int .i64 (ligValue C (j:Nat))):=by
 rw[Nat.zero_add,Nat.mul_one]
 unfold ligValues
 rw[List.map_map,show((j:Nat):Int).toNat=j from rfl,nth_rangeM _ _ _ _ h,Nat.zero_add]
 rfl
end Go.Proofs.YtmfphenhpkgidaaGreatDoor
namespace Go.Proofs.YtmfphenhpkgidaaGreatDoor
open Go.Cm Go
set_option maxRecDepth 100000
variable{S:St}
theorem expE_err{nl:List UInt8}{C:List Sg}(h:((partE nl C).1 !=0)=true):expE nl C=((partE nl C).1,[]):=by unfold expE;rw[h];rfl
theorem expE_ok{nl:List UInt8}{C:List Sg}(h:((partE nl C).1 !=0)=false):expE nl C=expL C (prs C) C:=by unfold expE;rw[h];rfl
def ExpR(nl:List UInt8)(C:List Sg)(v:Value)(S':St):Prop:= ∃nm' a' cap',v=tupV [aggL [.string nm',.slice a' (expE nl C).2.length cap'],.int .i64 (expE nl C).1]∧Signs S' (.slice a' (expE nl C).2.length cap') (expE nl C).2
theorem exp_res{S':St}{nl:List UInt8}{C X:List Sg}{e:Int}{nm':ByteArray}{a':Option Addr}{len cap':Nat}(h:expE nl C=(e,X))(hlen:len=X.length)(hs:Signs S' (.slice a' X.length cap') X):ExpR nl C (tupV [aggL [.string nm',.slice a' len cap'],.int .i64 e]) S':=by
 subst hlen
 unfold ExpR
 rw[h]
 exact⟨_,_,_,rfl,hs⟩
theorem signs_none(S:St):Signs S (.slice none ([]:List Sg).length 0) []:= .inl ⟨rfl,.inl rfl⟩
end Go.Proofs.YtmfphenhpkgidaaGreatDoor

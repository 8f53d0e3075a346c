/-
  The reference: items.
-/
import Derived.Test.YtmfphenhpkgidaaGreatDoorSmE
import Derived.Test.YtmfphenhpkgidaaGreatDoorSmD
import Derived.Test.YtmfphenhpkgidaaGreatDoorSmC
namespace Go.Proofs.YtmfphenhpkgidaaGreatDoor
open Go.Cm Go
set_option maxRecDepth 100000
variable{S:St}
abbrev gIt(av:Option Addr)(D:List It):Gr:=gOf 266 12 It.cells (.slice av D.length D.length) D
theorem gIt_ok{Ts:List St}{S0 S1:St}{l:List (Nat×Blk)}{av:Option Addr}{D:List It}{x:It}(h:HoldG S0 Ts S1 l [⟨.slice av (D.length+1) (D.length+1),266,12,(D.map It.cells).flatten++x.cells,D.length+1⟩]):HoldG S0 Ts S1 l [gIt av (D++[x])]:=by
 unfold gIt
 rw[gOf_push]
 exact h
def ItsR(S':St)(n:Nat)(v:Value):Prop:=(∃e:Int,e≠0∧v=tupV [.slice none 0 0,.int .i64 e])∨(∃a1 K,v=tupV [.slice a1 K.length K.length,.int .i64 0]∧Its S' (.slice a1 K.length K.length) K∧K.length=n)
noncomputable def cd145:Code:=Tryz.f145.body.getD .skip
set_option maxHeartbeats 4000000 in
theorem spec145(p q r t:Int)(a:Option Addr)(cap:Nat)(C:List Sg)(ap:Option Addr)(cp:Nat)(P:List Int)(am:Option Addr)(cm:Nat)(M:List Int)(hn:C.length≤1000)(hp:P.length≤1000)(hm:M.length≤1000)(hF:Fresh S)(hv:Sgs S (.slice a C.length cap) C)(hP:Nums S (.slice ap P.length cp) P)(hM:Nums S (.slice am M.length cm) M):CC Tryz.prog KK 145 [mV4 p q r t,.slice a C.length cap,.slice ap P.length cp,.slice am M.length cm] S (fun v S'=>Keep S S'∧(ItsR S' (ndF C C.length) v)):=by
 refine cc_enter (c:=cd145) (n:=124) Tryz.func145 rfl rfl rfl (by kernel_rfl) rfl rfl ?_
 have hl:=Hold.start S
 refine zg ?_;refine re_boxL hl rfl rfl rfl rfl rfl rfl ?_
 intro B4 S4 hl
 refine zg ?_
 refine zc hl rfl (spec181 p q r t a cap C ap cp P hn hp (hl.keep.3 hF) (hv.move (hl.since 0 rfl)) (hP.move (hl.since 0 rfl))) ?_;rintro v S1 hk1 hR hl
 rcases hR with ⟨e,he,rfl⟩|⟨hok,ak,K,aw,W,rfl,hK,hW,hKl,hWl⟩
 ·
  refine zg ?_
  constructor<;>intro h27
  ·
   refine zg ?_
   exact z2 rfl rfl ⟨hl.keep,.inl ⟨e,he,rfl⟩⟩
  exact absurd (by simpa using h27) he
 have hl:=hl.mark
 refine zg ?_
 refine zc hl rfl (spec182 p q r t a cap C am cm M hn hm (hl.keep.3 hF) (hv.move (hl.since 1 rfl)) (hM.move (hl.since 1 rfl))) ?_;rintro v S2 hk2 hR hl
 rcases hR with ⟨e,he,rfl⟩|⟨ad,D,rfl,hD,hDl⟩
 ·
  refine zg ?_
  constructor<;>intro h37
  ·
   refine zg ?_
   exact z2 rfl rfl ⟨hl.keep,.inl ⟨e,he,rfl⟩⟩
  exact absurd (by simpa using h37) he
 have hl:=hl.mark
 refine zg ?_
 have hl:=hl.addG (g:=gIt none []) (.inl ⟨rfl,rfl,rfl⟩)
 refine xe_sub (L':=[(15,.int .i64 0),(14,.slice none 0 0),(13,.slice ad D.length D.length),(11,.slice aw W.length W.length),(10,.slice ak K.length K.length),(9,.int .i64 0),(8,.slice none 0 0),(1,.slice a C.length cap)]) ⟨rfl,rfl,rfl,rfl,rfl,rfl,rfl,rfl,trivial⟩ ?_
 refine xp_loop rfl (fun m Le S'=>∃(i:Nat) (av:Option Addr) (O:List It),i≤C.length∧m=C.length-i∧O.length=ndF C i∧SubE [(15,.int .i64 (i:Int)),(14,.slice av O.length O.length),(13,.slice ad D.length D.length),(11,.slice aw W.length W.length),(10,.slice ak K.length K.length),(9,.int .i64 0),(8,.slice none 0 0),(1,.slice a C.length cap)] Le∧HoldG S [S2,S1,S] S' [(B4,.cells [.int .i64 p,.int .i64 q,.int .i64 r,.int .i64 t] 51 false true [])] [gIt av O]) ?_ (m:=C.length) ⟨0,none,[],by omega,by omega,rfl,⟨rfl,rfl,rfl,rfl,rfl,rfl,rfl,rfl,trivial⟩,hl⟩
 clear hl;rintro m Le S' ⟨i,av,O,hi,rfl,hO,hsub,hl⟩;refine xe_sub hsub ?_
 have hni:=nd_le (C:=C) i
 refine zg ?_
 constructor<;>intro h42
 ·
  have hlt:i<C.length:=by have:=of_decide_eq_true h42;omega
  obtain⟨s,hs⟩:=nth_some hlt
  obtain⟨b1,o1,cs1,ha,_,hrow,htk⟩:=hv.elem hs
  refine zg ?_
  constructor<;>intro h50
  ·
   have hk3:s.kind=3:=by simpa using h50
   refine zg ?_
   exact⟨C.length-(i+1),by omega,i+1,av,O,by omega,rfl,by rw[hO,nd_dot hs hk3],⟨rfl,rfl,rfl,rfl,rfl,rfl,rfl,rfl,trivial⟩,hl⟩
  have hk3:s.kind≠3:=by simpa using h50
  have hn1:=nd_no hs hk3
  have hmo:=nd_mono (C:=C) (show i+1≤C.length by omega)
  obtain⟨c,hc⟩:=nth_some (show O.length<K.length by omega)
  obtain⟨w,hw⟩:=nth_some (show O.length<W.length by omega)
  obtain⟨d,hd2⟩:=nth_some (show O.length<D.length by omega)
  obtain⟨b2,o2,cs2,ha2,_,hrow2,htk2⟩:=(hK.move (hl.since 1 rfl)).elem hc
  obtain⟨b3,o3,cs3,ha3,_,hrow3,htk3⟩:=(hD.move (hl.since 0 rfl)).elem hd2
  refine zg ?_;refine xp_draw (idx:=[0,1,2,3,4,5,6,7,8,9,10,11,12,13,14,15,16,17,18,19,20,21,22,23,24]) rfl (by kernel_rfl) (by kernel_rfl) ?_;refine zg ?_;iterate 2 refine pr rfl (rd_build rfl rfl (v:=aggL (Ti.mk 0 1).cells) (by rfl)) ?_
  refine pr rfl (rd_build rfl rfl (v:=aggL (It.mk i s.value (s.kind==2) false false c d ⟨0,1⟩ ⟨0,1⟩).cells) (by rfl)) ?_;refine rp_allocL hF hl rfl rfl rfl rfl rfl (z:=[.int .i64 0,.int .i64 0,.bool false,.bool false,.bool false,.int .i64 0,.int .i64 0,.int .i64 0,.int .i64 0,.int .i64 0,.int .i64 0,.int .i64 0]) (by kernel_rfl) ?_;intro B17 S17 hl
  refine rp_storeL hl 0 rfl rfl rfl rfl rfl rfl rfl (by kernel_rfl) (c':=(It.mk i s.value (s.kind==2) false false c d ⟨0,1⟩ ⟨0,1⟩).cells) rfl ?_;intro S5 hl;refine⟨zt,?_⟩
  clear ha hrow htk ha2 hrow2 htk2 ha3 hrow3 htk3
  generalize It.mk i s.value (s.kind==2) false false c d ⟨0,1⟩ ⟨0,1⟩=y at hl
  obtain⟨b1,o1,cs1,ha,_,hrow,htk⟩:=hv.elem hs
  refine zA ?_;refine xp_seq rfl (xe_cut (fun Le S'=>∃y:It,SubE [(17,ptrTo B17 0),(16,.int .i64 (O.length:Int)),(15,.int .i64 (i:Int)),(14,.slice av O.length O.length),(13,.slice ad D.length D.length),(11,.slice aw W.length W.length),(10,.slice ak K.length K.length),(9,.int .i64 0),(8,.slice none 0 0),(1,.slice a C.length cap)] Le∧HoldG S [S2,S1,S] S' [(B17,.cells y.cells 266 false true []),(B4,.cells [.int .i64 p,.int .i64 q,.int .i64 r,.int .i64 t] 51 false true [])] [gIt av O]) ?_ ?_)
  ·
   refine zg ?_;refine re_bool (d:=81) rfl (fun h81=>?_) (fun h81=>?_)
   ·
    refine zg ?_;refine rr rfl (rd_un rfl rfl rfl) ?_;refine zg ?_;refine re_storeL hl 0 rfl rfl rfl rfl rfl rfl rfl (by kernel_rfl) (c':=({y with co:=!y.re}:It).cells) rfl ?_
    intro S6 hl
    refine zg ?_
    exact⟨rfl,_,⟨rfl,rfl,rfl,rfl,rfl,rfl,rfl,rfl,rfl,rfl,trivial⟩,hl⟩
   refine zg ?_;refine re_storeL hl 0 rfl rfl rfl rfl rfl rfl rfl (by kernel_rfl) (c':=({y with co:=false}:It).cells) rfl ?_
   intro S6 hl
   refine zA ?_
   exact⟨rfl,_,⟨rfl,rfl,rfl,rfl,rfl,rfl,rfl,rfl,rfl,rfl,trivial⟩,hl⟩
  clear ha hrow htk hl hsub y;rintro Le S6 ⟨y,hsub,hl⟩;refine xe_sub hsub ?_
  obtain⟨b3,o3,cs3,ha3,_,hrow3,htk3⟩:=(hW.move (hl.since 1 rfl)).elem hw
  refine xp_seq rfl (xe_cut (fun Le S'=>∃y:It,SubE [(17,ptrTo B17 0),(16,.int .i64 (O.length:Int)),(15,.int .i64 (i:Int)),(14,.slice av O.length O.length),(13,.slice ad D.length D.length),(11,.slice aw W.length W.length),(10,.slice ak K.length K.length),(9,.int .i64 0),(8,.slice none 0 0),(1,.slice a C.length cap)] Le∧HoldG S [S2,S1,S] S' [(B17,.cells y.cells 266 false true []),(B4,.cells [.int .i64 p,.int .i64 q,.int .i64 r,.int .i64 t] 51 false true [])] [gIt av O]) ?_ ?_)
  ·
   refine zg ?_
   constructor<;>intro h90
   ·
    refine zg ?_;refine rr rfl (rd_build rfl rfl (v:=aggL (Ti.mk 3 2).cells) (by rfl)) ?_
    refine zc hl rfl (spec183 y.du ⟨3,2⟩) ?_;rintro v S7 hk3' ⟨z,e,rfl,_⟩ hl
    refine zg ?_;refine re_storeL hl 0 rfl rfl rfl rfl rfl rfl rfl (by kernel_rfl) (c':=({y with du:=z}:It).cells) rfl ?_
    intro S8 hl
    refine zg ?_
    exact⟨rfl,_,⟨rfl,rfl,rfl,rfl,rfl,rfl,rfl,rfl,rfl,rfl,trivial⟩,hl⟩
   refine xp_skip rfl ?_
   exact⟨rfl,_,⟨rfl,rfl,rfl,rfl,rfl,rfl,rfl,rfl,rfl,rfl,trivial⟩,hl⟩
  clear ha3 hrow3 htk3 hl hsub y;rintro Le S7 ⟨y,hsub,hl⟩;refine xe_sub hsub ?_
  obtain⟨b3,o3,cs3,ha3,_,hrow3,htk3⟩:=(hW.move (hl.since 1 rfl)).elem hw
  refine xp_seq rfl (xe_cut (fun Le S'=>∃y:It,SubE [(17,ptrTo B17 0),(16,.int .i64 (O.length:Int)),(15,.int .i64 (i:Int)),(14,.slice av O.length O.length),(13,.slice ad D.length D.length),(11,.slice aw W.length W.length),(10,.slice ak K.length K.length),(9,.int .i64 0),(8,.slice none 0 0),(1,.slice a C.length cap)] Le∧HoldG S [S2,S1,S] S' [(B17,.cells y.cells 266 false true []),(B4,.cells [.int .i64 p,.int .i64 q,.int .i64 r,.int .i64 t] 51 false true [])] [gIt av O]) ?_ ?_)
  ·
   refine zg ?_;refine re_bool (d:=101) rfl (fun h101=>?_) (fun h101=>?_)
   ·
    refine zg ?_;refine re_storeL hl 0 rfl rfl rfl rfl rfl rfl rfl (by kernel_rfl) (c':=({y with fi:=true}:It).cells) rfl ?_
    intro S8 hl
    refine zg ?_
    exact⟨rfl,_,⟨rfl,rfl,rfl,rfl,rfl,rfl,rfl,rfl,rfl,rfl,trivial⟩,hl⟩
   refine zg ?_;refine re_bool (d:=105) rfl (fun h105=>?_) (fun h105=>?_)
   ·
    refine zg ?_;refine re_storeL hl 0 rfl rfl rfl rfl rfl rfl rfl (by kernel_rfl) (c':=({y with fi:=true}:It).cells) rfl ?_
    intro S8 hl
    refine zg ?_
    exact⟨rfl,_,⟨rfl,rfl,rfl,rfl,rfl,rfl,rfl,rfl,rfl,rfl,trivial⟩,hl⟩
   refine zg ?_;refine re_bool (d:=111) rfl (fun h111=>?_) (fun h111=>?_)
   ·
    refine zg ?_;refine re_storeL hl 0 rfl rfl rfl rfl rfl rfl rfl (by kernel_rfl) (c':=({y with fi:=true}:It).cells) rfl ?_
    intro S8 hl
    refine zg ?_
    exact⟨rfl,_,⟨rfl,rfl,rfl,rfl,rfl,rfl,rfl,rfl,rfl,rfl,trivial⟩,hl⟩
   refine zg ?_;refine re_storeL hl 0 rfl rfl rfl rfl rfl rfl rfl (by kernel_rfl) (c':=({y with fi:=(y.cu==y.va)}:It).cells) rfl ?_
   intro S8 hl
   refine zg ?_
   exact⟨rfl,_,⟨rfl,rfl,rfl,rfl,rfl,rfl,rfl,rfl,rfl,rfl,trivial⟩,hl⟩
  clear ha3 hrow3 htk3 hl hsub y;rintro Le S8 ⟨y,hsub,hl⟩;refine xe_sub hsub ?_
  refine zg ?_;refine re_buildSliceR hl rfl rfl rfl rfl rfl Tryz.underlying208 rfl (c:=y.cells) (by kernel_rfl) ?_;intro B121 S9 hr121 hl;refine re_appendG hl 0 rfl rfl (by simp) rfl rfl rfl rfl rfl rfl rfl Tryz.underlying208 Tryz.underlying208 rfl rfl (by kernel_rfl) (src_row_ (n:=1) (cap:=1) hr121 rfl) rfl rfl (by kernel_rfl) (by show O.length+1≤maxNeed;unfold maxNeed;omega) ?_;intro v122 S10 hl
  obtain⟨av2,rfl⟩:∃x,v122= .slice x (O.length+1) (O.length+1):=Grow.is_ (hl.gr _ (List.mem_cons_self ..))
  have hl:HoldG S [S2,S1,S] S10 _ [gIt av2 (O++[y])]:=gIt_ok hl
  refine zg ?_
  exact⟨C.length-(i+1),by omega,i+1,av2,_,by omega,rfl,by rw[len_push];omega,⟨rfl,by rw[len_push];rfl,rfl,rfl,rfl,rfl,rfl,rfl,trivial⟩,hl.tail⟩
 have hi2:i=C.length:=by have:=of_decide_eq_false h42;omega
 subst hi2
 refine zg ?_
 exact y2 rfl rfl ⟨hl.keep,.inr ⟨av,O,rfl,Grow.ls (f:=It.cells) (fun _=>rfl) (hl.gr _ (List.mem_cons_self ..)),hO⟩⟩
end Go.Proofs.YtmfphenhpkgidaaGreatDoor
namespace Go.Proofs.YtmfphenhpkgidaaGreatDoor
open Go.Cm Go
set_option maxRecDepth 100000
variable{S:St}
theorem take_push{α:Type}{l:List α}{i:Nat}{x:α}(h:nth l i=some x):l.take (i+1)=l.take i++[x]:=by
 rw[List.take_add_one,←nth_eq,h]
 rfl
theorem repl_push{α:Type}(n:Nat)(x:α):List.replicate (n+1) x=List.replicate n x++[x]:=List.replicate_succ'
def mnyF(p q r t:Int)(C:List Sg)(n:Nat):List Int:=(lnsF p q r t C C.length).map (fun k:Nat=>(k:Int))++List.replicate n 2
theorem mny_mem{p q r t:Int}{C:List Sg}{n:Nat}{x:Int}(h:x∈mnyF p q r t C n):1≤x∧x≤2:=by
 rcases List.mem_append.1 h with h|h
 ·obtain⟨k,hk,rfl⟩:=List.mem_map.1 h
  have:=lns_all _ k hk
  omega
 rw[(List.mem_replicate.1 h).2]
 decide
theorem mny_len{p q r t:Int}{C:List Sg}{n:Nat}:(mnyF p q r t C n).length=(lnsF p q r t C C.length).length+n:=by
 rw[mnyF,List.length_append,List.length_map,List.length_replicate]
noncomputable def cd179:Code:=Tryz.f179.body.getD .skip
theorem spec179(p q r t:Int)(a:Option Addr)(cap:Nat)(C:List Sg)(hn:C.length≤1000)(hok:ChkOk p q r t C)(hF:Fresh S)(hv:Sgs S (.slice a C.length cap) C):CC Tryz.prog KK 179 [mV4 p q r t,.slice a C.length cap] S (fun v S'=>Keep S S'∧(∃ak n,v= .slice ak (mnyF p q r t C n).length (mnyF p q r t C n).length∧Nums S' (.slice ak (mnyF p q r t C n).length (mnyF p q r t C n).length) (mnyF p q r t C n)∧n≤C.length)):=by
 refine cc_enter (c:=cd179) (n:=48) Tryz.func179 rfl rfl rfl (by kernel_rfl) rfl rfl ?_
 have hl:=Hold.start S
 refine zg ?_;refine re_boxL hl rfl rfl rfl rfl rfl rfl ?_
 intro B2 S2 hl
 refine zg ?_
 refine zc hl rfl (spec180 p q r t a cap C hn (hl.keep.3 hF) (hv.move (hl.since 0 rfl))) ?_;rintro v S1 hk1 hR hl
 rcases hR with ⟨hno,_⟩|⟨_,ag,G,rfl,hG,hGo,hGl⟩
 ·exact absurd hok hno
 have hGn:G.length=(lnsF p q r t C C.length).length:=by rw[←hGl,List.length_map]
 have hGi:=lns_le (p:=p) (q:=q) (r:=r) (t:=t) (C:=C) C.length
 have hl:=hl.mark
 refine zA ?_;refine xp_seq rfl ?_;refine zS ?_;refine xp_block rfl ?_
 have hl:=hl.addG (g:=gI' none []) (.inl ⟨rfl,rfl,rfl⟩)
 refine xe_sub (L':=[(8,.int .i64 0),(6,.slice ag G.length G.length),(5,.slice none 0 0),(4,.slice none 0 0),(2,ptrTo B2 0),(1,.slice a C.length cap)]) ⟨rfl,rfl,rfl,rfl,rfl,rfl,trivial⟩ ?_
 refine xp_loop rfl (fun m Le S'=>∃(i:Nat) (av:Option Addr) (K:List Int),i≤G.length∧m=G.length-i∧K.length=i∧K=(G.take i).map (fun w=>(w.C.length:Int))∧SubE [(8,.int .i64 (i:Int)),(6,.slice ag G.length G.length),(5,.slice av K.length K.length),(4,.slice none 0 0),(2,ptrTo B2 0),(1,.slice a C.length cap)] Le∧HoldG S [S1,S] S' [(B2,.cells [.int .i64 p,.int .i64 q,.int .i64 r,.int .i64 t] 51 false true [])] [gI' av K]) ?_ (m:=G.length) ⟨0,none,[],by omega,by omega,rfl,rfl,⟨rfl,rfl,rfl,rfl,rfl,rfl,trivial⟩,hl⟩
 clear hl;rintro m Le S' ⟨i,av,K,hi,rfl,hKn,hK,hsub,hl⟩;refine xe_sub hsub ?_
 refine zg ?_
 constructor<;>intro h21
 ·
  have hlt:i<G.length:=by have:=of_decide_eq_true h21;omega
  obtain⟨w,hw⟩:=nth_some hlt
  obtain⟨b1,o1,cs1,ha,_,hrow,htk⟩:=(hG.move (hl.since 0 rfl)).elem hw
  refine zg ?_;refine re_buildSliceR hl rfl rfl rfl rfl rfl Tryz.underlying38 rfl (c:=ic (w.C.length:Int)) (by kernel_rfl) ?_;intro B30 S3 hr30 hl;refine re_appendG hl 0 rfl rfl (by simp) rfl rfl rfl rfl rfl rfl rfl Tryz.underlying38 Tryz.underlying38 rfl rfl (by kernel_rfl) (src_row_ (n:=1) (cap:=1) hr30 rfl) rfl rfl (by kernel_rfl) (by show K.length+1≤maxNeed;unfold maxNeed;omega) ?_;intro v31 S3 hl
  obtain⟨av2,rfl⟩:∃x,v31= .slice x (K.length+1) (K.length+1):=Grow.is_ (hl.gr _ (List.mem_cons_self ..))
  have hl:HoldG S [S1,S] S3 _ [gI' av2 (K++[(w.C.length:Int)])]:=gI_ok hl
  refine zg ?_
  exact⟨G.length-(i+1),by omega,i+1,av2,_,by omega,rfl,by rw[len_push];omega,by rw[take_push hw,List.map_append,←hK];rfl,⟨rfl,rfl,by rw[len_push];rfl,rfl,rfl,rfl,trivial⟩,hl⟩
 have hi2:i=G.length:=by have:=of_decide_eq_false h21;omega
 subst hi2
 rw[List.take_length]at hK
 have hK:K=mnyF p q r t C 0:=by
  rw[hK,mnyF,←hGl,List.map_map]
  exact(List.append_nil _).symm
 clear hKn hsub
 subst hK
 refine zg ?_
 refine zc hl rfl (spec219 p q r t a cap C hn (hl.keep.3 hF) (hv.move (hl.since 1 rfl))) ?_;rintro v S3 hk3 hR hl
 obtain⟨ap,np,cp,e2,rfl,hnp⟩:∃(ap:Option Addr) (np cp:Nat) (e2:Int),v=tupV [.slice ap np cp,.int .i64 e2]∧np≤C.length:=by
  rcases hR with ⟨e2,_,rfl⟩|⟨_,al,D,rfl,_,hD⟩
  ·exact⟨none,0,0,e2,rfl,by omega⟩
  exact⟨al,D.length,D.length,0,rfl,hD⟩
 clear hR
 refine zA ?_;refine xp_seq rfl ?_;refine zS ?_;refine xp_block rfl ?_;refine xe_sub (L':=[(11,.int .i64 0),(9,.slice ap np cp),(5,.slice av (mnyF p q r t C 0).length (mnyF p q r t C 0).length),(4,.slice none 0 0)]) ⟨rfl,rfl,rfl,rfl,trivial⟩ ?_
 refine xp_loop rfl (fun m Le S'=>∃(i:Nat) (av:Option Addr),i≤np∧m=np-i∧SubE [(11,.int .i64 (i:Int)),(9,.slice ap np cp),(5,.slice av (mnyF p q r t C i).length (mnyF p q r t C i).length),(4,.slice none 0 0)] Le∧HoldG S [S1,S] S' [(B2,.cells [.int .i64 p,.int .i64 q,.int .i64 r,.int .i64 t] 51 false true [])] [gI' av (mnyF p q r t C i)]) ?_ (m:=np) ⟨0,av,by omega,by omega,⟨rfl,rfl,rfl,rfl,trivial⟩,hl⟩
 clear hl;rintro m Le S' ⟨i,av,hi,rfl,hsub,hl⟩;refine xe_sub hsub ?_
 have hml:=mny_len (p:=p) (q:=q) (r:=r) (t:=t) (C:=C) (n:=i)
 refine zg ?_
 constructor<;>intro h41
 ·
  have hlt:i<np:=by have:=of_decide_eq_true h41;omega
  refine zg ?_;refine re_buildSliceR hl rfl rfl rfl rfl rfl Tryz.underlying38 rfl (c:=ic 2) (by kernel_rfl) ?_;intro B45 S4 hr45 hl;refine re_appendG hl 0 rfl rfl (by simp) rfl rfl rfl rfl rfl rfl rfl Tryz.underlying38 Tryz.underlying38 rfl rfl (by kernel_rfl) (src_row_ (n:=1) (cap:=1) hr45 rfl) rfl rfl (by kernel_rfl) (by show(mnyF p q r t C i).length+1≤maxNeed;unfold maxNeed;omega) ?_;intro v46 S5 hl
  obtain⟨av2,rfl⟩:∃x,v46= .slice x ((mnyF p q r t C i).length+1) ((mnyF p q r t C i).length+1):=Grow.is_ (hl.gr _ (List.mem_cons_self ..))
  have hl:HoldG S [S1,S] S5 _ [gI' av2 (mnyF p q r t C i++[2])]:=gI_ok hl
  have e1:mnyF p q r t C i++[2]=mnyF p q r t C (i+1):=by rw[mnyF,mnyF,repl_push,List.append_assoc]
  rw[e1]at hl
  refine zg ?_
  exact⟨np-(i+1),by omega,i+1,av2,by omega,rfl,⟨rfl,rfl,by rw[←e1,len_push];rfl,rfl,trivial⟩,hl⟩
 refine zg ?_
 exact y1 rfl ⟨hl.keep,av,i,rfl,Grow.ls (f:=ic) (fun _=>rfl) (hl.gr _ (List.mem_cons_self ..)),by omega⟩
def CntR(p q r t:Int)(C:List Sg)(v:Value):Prop:=(∃c e:Int,e≠0∧v=tupV [.int .i64 c,.int .i64 e])∨ChkOk p q r t C∧∃c e:Int,e=0∧1≤c∧c≤64∧v=tupV [.int .i64 c,.int .i64 e]
noncomputable def cd177:Code:=Tryz.f177.body.getD .skip
theorem spec177(p q r t:Int)(a:Option Addr)(cap:Nat)(C:List Sg)(hn:C.length≤1000)(hF:Fresh S)(hv:Sgs S (.slice a C.length cap) C):CC Tryz.prog KK 177 [mV4 p q r t,.slice a C.length cap] S (fun v S'=>Keep S S'∧(CntR p q r t C v)):=by
 refine cc_enter (c:=cd177) (n:=34) Tryz.func177 rfl rfl rfl (by kernel_rfl) rfl rfl ?_
 have hl:=Hold.start S
 refine zg ?_;refine re_boxL hl rfl rfl rfl rfl rfl rfl ?_
 intro B2 S2 hl
 refine zg ?_
 refine zc hl rfl (spec218 p q r t a cap C hn (hl.keep.3 hF) (hv.move (hl.since 0 rfl))) ?_;rintro v S1 hk1 ⟨e,rfl,he⟩ hl
 refine zg ?_
 constructor<;>intro h14
 ·
  refine zg ?_
  exact z2 rfl rfl ⟨hl.keep,.inl ⟨_,e,by simpa using h14,rfl⟩⟩
 have hok:=he.1 (by simpa using h14)
 refine zg ?_
 refine zc hl rfl (spec179 p q r t a cap C hn hok (hl.keep.3 hF) (hv.move (hl.since 0 rfl))) ?_;rintro v S3 hk3 ⟨ak,n,rfl,hK,hnn⟩ hl
 have hmem:=@mny_mem p q r t C n
 have hKn:(mnyF p q r t C n).length≤2000:=by
  have:=lns_le (p:=p) (q:=q) (r:=r) (t:=t) (C:=C) C.length
  rw[mny_len]
  omega
 generalize mnyF p q r t C n=K at hK hKn hmem ⊢
 have hl:=hl.mark
 refine zA ?_;refine xp_seq rfl ?_;refine zS ?_;refine xp_block rfl ?_;refine xe_sub (L':=[(9,.int .i64 0),(8,.slice ak K.length K.length),(7,.int .i64 1),(5,.int .i64 0),(4,.int .i64 0)]) ⟨rfl,rfl,rfl,rfl,rfl,trivial⟩ ?_
 refine xp_loop rfl (fun m Le S'=>∃(i:Nat) (N:Int),i≤K.length∧1≤N∧N≤64∧m=K.length-i∧SubE [(9,.int .i64 (i:Int)),(8,.slice ak K.length K.length),(7,.int .i64 N),(5,.int .i64 0),(4,.int .i64 0)] Le∧HoldG S [S3,S] S' [(B2,.cells [.int .i64 p,.int .i64 q,.int .i64 r,.int .i64 t] 51 false true [])] []) ?_ (m:=K.length) ⟨0,1,by omega,by omega,by omega,by omega,⟨rfl,rfl,rfl,rfl,rfl,trivial⟩,hl⟩
 clear hl;rintro m Le S' ⟨i,N,hi,hN1,hN2,rfl,hsub,hl⟩;refine xe_sub hsub ?_
 refine zg ?_
 constructor<;>intro h22
 ·
  have hlt:i<K.length:=by have:=of_decide_eq_true h22;omega
  obtain⟨x,hx⟩:=nth_some hlt
  have hxb:=hmem (nth_mem hx)
  have hmb:=mul_bd (a:=N) (b:=x) (by omega) hN2 (by omega) hxb.2
  have hmp:1≤N*x:=by
   have:=Int.mul_pos (show 0<N by omega) (show 0<x by omega)
   omega
  obtain⟨b1,o1,cs1,ha,_,hrow,htk⟩:=(hK.move (hl.since 0 rfl)).elem hx
  refine zg ?_
  constructor<;>intro h32
  ·
   refine zg ?_
   exact blk_ret (thn_ret (round_ret (blk_ret ((z2 rfl rfl ⟨hl.keep,.inl ⟨_,_,by decide,rfl⟩⟩)))))
  have h32:N*x≤64:=by have:=of_decide_eq_false h32;omega
  refine zg ?_
  exact⟨K.length-(i+1),by omega,i+1,N*x,by omega,hmp,h32,rfl,⟨rfl,rfl,rfl,rfl,rfl,trivial⟩,hl⟩
 refine zg ?_
 exact y2 rfl rfl ⟨hl.keep,.inr ⟨hok,N,0,rfl,hN1,hN2,rfl⟩⟩
theorem repl_ic:∀n,replL n [Value.int .i64 0]=((List.replicate n (0:Int)).map ic).flatten
 |0=>rfl
 |n+1=>by
  show _++replL n _=_
  rw[repl_ic n]
  rfl
def OfR(S':St)(v:Value):Prop:=(∃e:Int,e≠0∧v=tupV [.slice none 0 0,.slice none 0 0,.int .i64 e])∨(∃a1 K a2 W,v=tupV [.slice a1 K.length K.length,.slice a2 W.length W.length,.int .i64 0]∧Nums S' (.slice a1 K.length K.length) K∧Nums S' (.slice a2 W.length W.length) W∧K.length≤1000∧W.length≤1000)
noncomputable def cd144:Code:=Tryz.f144.body.getD .skip
set_option maxHeartbeats 4000000 in
theorem spec144(p q r t:Int)(a:Option Addr)(cap:Nat)(C:List Sg)(N:Int)(hn:C.length≤1000)(hF:Fresh S)(hv:Sgs S (.slice a C.length cap) C):CC Tryz.prog KK 144 [mV4 p q r t,.slice a C.length cap,.int .i64 N] S (fun v S'=>Keep S S'∧(OfR S' v)):=by
 refine cc_enter (c:=cd144) (n:=102) Tryz.func144 rfl rfl rfl (by kernel_rfl) rfl rfl ?_
 have hl:=Hold.start S
 refine zg ?_;refine re_boxL hl rfl rfl rfl rfl rfl rfl ?_
 intro B3 S3 hl
 refine zg ?_
 refine zc hl rfl (spec177 p q r t a cap C hn (hl.keep.3 hF) (hv.move (hl.since 0 rfl))) ?_;rintro v S1 hk1 hR hl
 rcases hR with ⟨c,e,he,rfl⟩|⟨hok,c,e,he,hc1,hc2,rfl⟩
 ·
  refine zg ?_
  constructor<;>intro h26
  ·
   refine zg ?_
   exact done3 rfl rfl rfl ⟨hl.keep,.inl ⟨e,he,rfl⟩⟩
  exact absurd (by simpa using h26) he
 refine zg ?_
 constructor<;>intro h26
 ·exact absurd he (by simpa using h26)
 clear h26 he
 refine xp_skip rfl ?_;refine xp_seq rfl ?_;refine xp_seq rfl (xe_toE hl 34 (.bool (decide (N<0)||decide (N≥c))) ?_ rfl ?_)
 ·
  refine zg ?_;refine re_bool (d:=30) rfl (fun h30=>?_) (fun h30=>?_)
  ·
   refine zg ?_
   exact⟨rfl,bl (by rw[h30];rfl),sB,hl⟩
  refine zg ?_
  exact⟨rfl,bl (by rw[h30];rfl),sB,hl⟩
 clear hl;intro S4 hl
 refine zg ?_
 constructor<;>intro h34
 ·
  refine zg ?_
  exact done3 rfl rfl rfl ⟨hl.keep,.inl ⟨_,by decide,rfl⟩⟩
 have h34:0≤N∧N<c:=by simpa using h34
 refine zg ?_
 refine zc hl rfl (spec179 p q r t a cap C hn hok (hl.keep.3 hF) (hv.move (hl.since 0 rfl))) ?_;rintro v S5 hk5 ⟨ak,n,rfl,hK,hnn⟩ hl
 have hkm:=hl.keep
 have hFm:=hl.keep.3 hF
 have hv5:=hv.move (hl.since 0 rfl)
 have h3:=hl.at_ B3 _ (List.mem_cons_self ..)
 have hd:At S5 B3 (.cells [.int .i64 p,.int .i64 q,.int .i64 r,.int .i64 t] 51 false true []):=⟨fun g=>(g.2 B3 h3.2.2).trans h3.1⟩
 have hmem:=@mny_mem p q r t C n
 have hml:=mny_len (p:=p) (q:=q) (r:=r) (t:=t) (C:=C) (n:=n)
 have hgl:=lns_le (p:=p) (q:=q) (r:=r) (t:=t) (C:=C) C.length
 have hmy:∀i x,nth (mnyF p q r t C n) i=some x→∀y:Nat,nth (lnsF p q r t C C.length) i=some y→x=y:=by
  intro i x hx y hy
  rw[nth_eq]at hx hy
  rw[mnyF,List.getElem?_append_left (by rw[List.length_map];exact(List.getElem?_eq_some_iff.1 hy).1),List.getElem?_map,hy]at hx
  exact(Option.some.inj hx).symm
 generalize mnyF p q r t C n=K at hK hml hmem hmy ⊢
 clear hl
 have hl:=Hold.start S5
 refine zg ?_;refine re_makeSliceK hl rfl rfl rfl rfl rfl rfl rfl rfl rfl Tryz.underlying38 (z:= .int .i64 0) (by kernel_rfl) (by kernel_rfl) (by unfold maxNeed;omega) ?_;intro B40 S6 hl
 have hO:OwN (.slice (some ⟨B40,0,none⟩) (List.replicate K.length (0:Int)).length (List.replicate K.length (0:Int)).length) (List.replicate K.length 0) [(B40,.cells (replL K.length (cellsL (.int .i64 0))) 3 true true [])]:= .inr ⟨B40,[],rfl,by rw[flat_len (f:=ic) (z:=1) (fun _=>rfl)],by rw[←repl_ic];rfl⟩
 have hl:HoldG S5 [S5] S6 ([]++([(B40,.cells (replL K.length (cellsL (.int .i64 0))) 3 true true [])]++[])) []:=hl
 generalize [(B40,Blk.cells (replL K.length (cellsL (.int .i64 0))) 3 true true [])]=fW at hO hl
 refine zA ?_;refine xp_seq rfl ?_;refine zS ?_;refine xp_block rfl ?_;refine xe_sub (L':=[(13,.int .i64 ((K.length:Int)-1)),(12,.slice (some ⟨B40,0,none⟩) K.length K.length),(11,.slice ak K.length K.length),(8,.int .i64 0),(7,.slice none 0 0),(6,.slice none 0 0),(3,ptrTo B3 0),(1,.slice a C.length cap),(2,.int .i64 N)]) ⟨rfl,rfl,rfl,rfl,rfl,rfl,rfl,rfl,rfl,trivial⟩ ?_
 refine xp_loop rfl (fun m Le S'=>∃(j:Nat) (W:List Int) (fW:List (Nat×Blk)) (M:Int),j≤K.length∧m=j∧0≤M∧M≤64∧W.length=K.length∧(∀i x w,j≤i→nth K i=some x→nth W i=some w→0≤w∧w<x)∧OwN (.slice (some ⟨B40,0,none⟩) W.length W.length) W fW∧SubE [(13,.int .i64 ((j:Int)-1)),(12,.slice (some ⟨B40,0,none⟩) K.length K.length),(11,.slice ak K.length K.length),(8,.int .i64 0),(7,.slice none 0 0),(6,.slice none 0 0),(3,ptrTo B3 0),(1,.slice a C.length cap),(2,.int .i64 M)] Le∧HoldG S5 [S5] S' ([]++(fW++[])) []) ?_ (m:=K.length) ⟨K.length,_,fW,N,by omega,by omega,by omega,by omega,List.length_replicate (n:=K.length) (a:=(0:Int)),(fun i x w h hx _=>absurd (nth_lt hx) (by omega)),hO,⟨rfl,rfl,rfl,rfl,rfl,rfl,rfl,rfl,rfl,trivial⟩,hl⟩
 clear hl hO fW;rintro m Le S' ⟨m,W,fW,M,hj,rfl,hM0,hM1,hW,hWx,hO,hsub,hl⟩;refine xe_sub hsub ?_
 refine zg ?_
 constructor<;>intro h45
 ·
  obtain⟨j,rfl⟩:∃j,m=j+1:=⟨m-1,by have:=of_decide_eq_true h45;omega⟩
  have e1:((j+1:Nat):Int)-1=(j:Int):=by omega
  rw[e1]
  obtain⟨x,hx⟩:=nth_some (show j<K.length by omega)
  have hxb:=hmem (nth_mem hx)
  have hrb:=rem_bd (a:=M) (b:=x) (by omega) hM0
  have hqb:=quo_bd (a:=M) (b:=x) (by omega) hM0
  obtain⟨b1,o1,cs1,ha,_,hrow,htk⟩:=(hK.move (hl.since 0 rfl)).elem hx
  refine zg ?_
  have e2:0+(j:Int).toNat*1=j:=by omega
  rw[e2]
  obtain⟨bx,S7,f3,e3,hs1,hO3,hl3⟩:=store_W (P:=Tryz.prog) hl hO (by omega) rfl (t:=3) (u:= .int .i64 (M.tmod x)) (by kernel_rfl) (setN_set (g:=fun x=>Value.int .i64 x) (M.tmod x) (k:=j) (by omega)) ((flat_len (f:=fun x=>[Value.int .i64 x]) (z:=1) (fun _=>rfl) _).trans ((congrArg (· *1) (set_len ..)).trans (flat_len (f:=ic) (z:=1) (fun _=>rfl) _).symm))
  cases e3
  refine re_store rfl rfl rfl rfl rfl rfl hs1 ?_
  clear ha hrow htk hl hs1
  have hl:=hl3
  obtain⟨b1,o1,cs1,ha,_,hrow,htk⟩:=(hK.move (hl.since 0 rfl)).elem hx
  refine zg ?_
  exact⟨j,by omega,j,W.set j (M.tmod x),f3,M.tdiv x,by omega,rfl,by omega,by omega,by rw[set_len];exact hW,(fun i y w h hy hw=>by
   rcases Nat.eq_or_lt_of_le h with h|h
   ·subst h
    rw[hx]at hy
    cases hy
    rw[nth_eq,List.getElem?_set_self (by omega)]at hw
    cases hw
    exact hrb
   rw[nth_eq,List.getElem?_set_ne (by omega),←nth_eq]at hw
   exact hWx i y w (by omega) hy hw),by unfold OwN;rw[set_len];exact hO3,⟨rfl,rfl,rfl,rfl,rfl,rfl,rfl,rfl,rfl,trivial⟩,hl⟩
 have hm0:m=0:=by have:=of_decide_eq_false h45;omega
 subst hm0
 have hWn:=OW.at_ (f:=ic) (fun _=>rfl) hO hl mem_mid
 have hkm:=hkm.trans hl.keep
 have hFm:=hl.keep.3 hFm
 have hv5:=hv5.move (hl.since 0 rfl)
 have hK:=hK.move (hl.since 0 rfl)
 have hd:At S' B3 (.cells [.int .i64 p,.int .i64 q,.int .i64 r,.int .i64 t] 51 false true []):=⟨fun g=>hd.at_ (hl.keep.trans g)⟩
 rw[hW]at hWn
 clear hl hO hj hsub
 have hl:=Hold.start S'
 refine zg ?_
 refine zc hl rfl (spec180 p q r t a cap C hn (hl.keep.3 hFm) (hv5.move (hl.since 0 rfl))) ?_;rintro v S8 hk8 hR hl
 rcases hR with ⟨hno,_⟩|⟨_,ag,G,rfl,hG,hGo,hGl⟩
 ·exact absurd hok hno
 have hGn:G.length=(lnsF p q r t C C.length).length:=by rw[←hGl,List.length_map]
 have hl:=hl.mark
 refine zA ?_;refine zS ?_;refine xp_seq rfl ?_;refine zS ?_;refine xp_block rfl ?_
 have hl:HoldG S' [S8,S'] S8 ([]++([]++([]++[]))) []:=hl
 refine xe_sub (L':=[(18,.int .i64 0),(17,.slice none 0 0),(16,.slice none 0 0),(14,.slice ag G.length G.length),(12,.slice (some ⟨B40,0,none⟩) K.length K.length),(11,.slice ak K.length K.length),(8,.int .i64 0),(7,.slice none 0 0),(6,.slice none 0 0)]) ⟨rfl,rfl,rfl,rfl,rfl,rfl,rfl,rfl,rfl,trivial⟩ ?_
 refine xp_loop rfl (fun m Le S9=>∃(i:Nat) (a1:Option Addr) (D:List Int) (f1:List (Nat×Blk)) (a2:Option Addr) (Y:List Int) (f2:List (Nat×Blk)),i≤K.length∧m=K.length-i∧D.length=min i G.length∧Y.length=i-G.length∧OwN (.slice a1 D.length D.length) D f1∧OwN (.slice a2 Y.length Y.length) Y f2∧SubE [(18,.int .i64 (i:Int)),(17,.slice a2 Y.length Y.length),(16,.slice a1 D.length D.length),(14,.slice ag G.length G.length),(12,.slice (some ⟨B40,0,none⟩) K.length K.length),(11,.slice ak K.length K.length),(8,.int .i64 0),(7,.slice none 0 0),(6,.slice none 0 0)] Le∧HoldG S' [S8,S'] S9 ([]++(f1++(f2++[]))) []) ?_ (m:=K.length) ⟨0,none,[],[],none,[],[],by omega,by omega,(Nat.zero_min _).symm,(Nat.zero_sub _).symm,.inl ⟨rfl,rfl,rfl,rfl⟩,.inl ⟨rfl,rfl,rfl,rfl⟩,⟨rfl,rfl,rfl,rfl,rfl,rfl,rfl,rfl,rfl,trivial⟩,hl⟩
 clear hl;rintro m Le S9 ⟨i,a1,D,f1,a2,Y,f2,hi,rfl,hDl,hYl,hO1,hO2,hsub,hl⟩;refine xe_sub hsub ?_
 refine zg ?_
 constructor<;>intro h72
 ·
  have hlt:i<K.length:=by have:=of_decide_eq_true h72;omega
  obtain⟨x,hx⟩:=nth_some hlt
  obtain⟨wv,hwv⟩:=nth_some (show i<W.length by omega)
  have hxb:=hmem (nth_mem hx)
  have hwb:=hWx i x wv (by omega) hx hwv
  refine zg ?_
  constructor<;>intro h78
  ·
   have hig:i<G.length:=by have:=of_decide_eq_true h78;omega
   obtain⟨w,hw⟩:=nth_some hig
   have hwo:=hGo w (nth_mem hw)
   have hxw:x=w.C.length:=hmy i x hx w.C.length (by rw[←hGl,nth_eq,List.getElem?_map,←nth_eq,hw];rfl)
   obtain⟨k,rfl,hk⟩:=int_n hwb.1 (show wv<w.C.length by omega)
   obtain⟨y,hy⟩:=nth_some hk
   obtain⟨b1,o1,cs1,ha1,_,hrow1,htk1⟩:=(hG.move (hl.since 0 rfl)).elem hw
   obtain⟨b2,o2,cs2,ha2,_,hrow2,htk2⟩:=(hWn.move (hl.since 1 rfl)).elem hwv
   obtain⟨b3,o3,cs3,ha3,_,hrow3,htk3⟩:=(hwo.move (hl.since 0 rfl)).elem hy
   refine xp_draw (idx:=[0,1,2,3,4,5,6,7,8,9,10,11,12,13]) rfl (by kernel_rfl) (by kernel_rfl) ?_;refine zg ?_;refine rp_buildSliceR hFm hl rfl rfl rfl rfl rfl Tryz.underlying38 rfl (c:=ic y) (by kernel_rfl) ?_;intro B90 S10 hg90 hr90 hl;refine rp_appendW hl hO1 rfl rfl rfl rfl rfl rfl rfl Tryz.underlying38 Tryz.underlying38 rfl rfl (by decide) (by kernel_rfl) (src_row_ (n:=1) (cap:=1) (new:=ic y) hr90 rfl) rfl rfl (by kernel_rfl) (by show D.length+1≤maxNeed;unfold maxNeed;omega) ?_;intro v91 f3 S11 hO3 hl
   obtain⟨a3,rfl⟩:=hO3.is
   have hO3:=num_push hO3
   have e3:D.length+1=(D++[y]).length:=(len_push ..).symm
   rw[e3]
   refine⟨zt,?_⟩
   refine zg ?_
   exact⟨K.length-(i+1),by omega,i+1,a3,_,f3,a2,_,f2,by omega,rfl,by rw[←e3];omega,by omega,hO3,hO2,⟨rfl,rfl,rfl,rfl,rfl,rfl,rfl,rfl,rfl,trivial⟩,hl⟩
  have hig:G.length≤i:=by have:=of_decide_eq_false h78;omega
  obtain⟨b2,o2,cs2,ha2,_,hrow2,htk2⟩:=(hWn.move (hl.since 1 rfl)).elem hwv
  refine zg ?_;refine re_buildSliceR hl rfl rfl rfl rfl rfl Tryz.underlying38 rfl (c:=ic (1+wv)) (by kernel_rfl) ?_;intro B98 S10 hr98 hl
  have hl:HoldG S' [S8,S'] S10 (([]++f1)++(f2++[])) []:=hl
  refine re_appendW hl hO2 rfl rfl rfl rfl rfl rfl rfl Tryz.underlying38 Tryz.underlying38 rfl rfl (by decide) (by kernel_rfl) (src_row_ (n:=1) (cap:=1) (new:=ic (1+wv)) hr98 rfl) rfl rfl (by kernel_rfl) (by show Y.length+1≤maxNeed;unfold maxNeed;omega) ?_;intro v99 f4 S11 hO4 hl
  obtain⟨a4,rfl⟩:=hO4.is
  have hO4:=num_push hO4
  have e4:Y.length+1=(Y++[1+wv]).length:=(len_push ..).symm
  rw[e4]
  refine zg ?_
  exact⟨K.length-(i+1),by omega,i+1,a1,_,f1,a4,_,f4,by omega,rfl,by omega,by rw[←e4];omega,hO1,hO4,⟨rfl,rfl,rfl,rfl,rfl,rfl,rfl,rfl,rfl,trivial⟩,hl⟩
 have hi2:i=K.length:=by have:=of_decide_eq_false h72;omega
 subst hi2
 refine zg ?_
 have hl1:=OW.at_ (f:=ic) (fun _=>rfl) hO1 hl mem_mid
 have hl2:=OW.at_ (f:=ic) (fun _=>rfl) hO2 hl (fun p hp=>List.mem_append.2 (.inr (List.mem_append.2 (.inr (List.mem_append.2 (.inl hp))))))
 exact done_ret (ress_tmp rfl (ress_tmp rfl (ress_tmp rfl rfl))) ⟨hkm.trans hl.keep,.inr ⟨a1,D,a2,Y,rfl,hl1,hl2,by omega,by omega⟩⟩
end Go.Proofs.YtmfphenhpkgidaaGreatDoor
namespace Go.Proofs.YtmfphenhpkgidaaGreatDoor
open Go.Cm Go
set_option maxRecDepth 100000
variable{S:St}
theorem hold_drop{S0 S:St}{Ts:List St}{l:List (Nat×Blk)}{gs:List Gr}(h:HoldG S0 Ts S l gs):HoldG S0 Ts S l []:=⟨h.keep,h.nd,h.at_,h.rk,fun _ hg=>(List.not_mem_nil hg).elim⟩
noncomputable def cd147:Code:=Tryz.f147.body.getD .skip
theorem spec147(a:Option Addr)(cap:Nat)(P:List Int)(b:Option Addr)(cb:Nat)(Q:List Int)(hp:P.length≤100000)(hq:Q.length≤100000)(hP:Nums S (.slice a P.length cap) P)(hQ:Nums S (.slice b Q.length cb) Q):CC Tryz.prog KK 147 [.slice a P.length cap,.slice b Q.length cb] S (fun v S'=>Keep S S'∧(∃av,v= .slice av (P++Q).length (P++Q).length∧Nums S' (.slice av (P++Q).length (P++Q).length) (P++Q))):=by
 refine cc_enter (c:=cd147) (n:=10) Tryz.func147 rfl rfl rfl (by kernel_rfl) rfl rfl ?_
 have hl:=Hold.start S
 refine zg ?_;refine re_buildSliceG hl 1 rfl rfl rfl rfl rfl Tryz.underlying38 rfl (c:=[]) (by kernel_rfl) rfl ?_;intro v5 S1 hl;refine zg ?_;refine re_appendG hl 0 rfl rfl (by simp) rfl rfl rfl rfl rfl rfl rfl Tryz.underlying38 Tryz.underlying38 rfl rfl (by kernel_rfl) (hP.move (hl.since 0 rfl)).cells (flat_len (f:=ic) (z:=1) (fun _=>rfl) _) (flatCells (f:=ic) (fun _=>rfl) _) (by kernel_rfl) (by show 0+P.length≤maxNeed;unfold maxNeed;omega) ?_;intro v7 S2 hl
 have hl:HoldG S [S] S2 [] [⟨v7,3,1,[]++(P.map ic).flatten,0+P.length⟩]:=hl
 refine zg ?_;refine re_appendG hl 0 rfl rfl (by simp) rfl rfl rfl rfl rfl rfl rfl Tryz.underlying38 Tryz.underlying38 rfl rfl (by kernel_rfl) (hQ.move (hl.since 0 rfl)).cells (flat_len (f:=ic) (z:=1) (fun _=>rfl) _) (flatCells (f:=ic) (fun _=>rfl) _) (by kernel_rfl) (by show 0+P.length+Q.length≤maxNeed;unfold maxNeed;omega) ?_;intro v9 S3 hl
 obtain⟨av,rfl⟩:∃x,v9= .slice x (0+P.length+Q.length) (0+P.length+Q.length):=Grow.is_ (hl.gr _ (List.mem_cons_self ..))
 have hg:=hl.gr _ (List.mem_cons_self ..)
 have e1:0+P.length+Q.length=(P++Q).length:=by rw[List.length_append,Nat.zero_add]
 have e2:[]++(P.map ic).flatten++(Q.map ic).flatten=((P++Q).map ic).flatten:=by rw[List.map_append,List.flatten_append,List.nil_append]
 rw[e1,e2]at hg
 rw[e1]
 refine zg ?_
 exact y1 rfl ⟨hl.keep,av,rfl,Grow.ls (f:=ic) (fun _=>rfl) hg⟩
noncomputable def cd148:Code:=Tryz.f148.body.getD .skip
theorem spec148(a:Option Addr)(cap:Nat)(C:List It)(hn:C.length≤1000)(hv:Its S (.slice a C.length cap) C):CC Tryz.prog KK 148 [.slice a C.length cap] S (fun v S'=>Keep S S'∧(∃av K,v= .slice av K.length K.length∧Tis S' (.slice av K.length K.length) K)):=by
 refine cc_enter (c:=cd148) (n:=20) Tryz.func148 rfl rfl rfl (by kernel_rfl) rfl rfl ?_
 have hl:=Hold.start S
 iterate 2 refine zS ?_
 refine xp_seq rfl ?_;refine zS ?_;refine xp_block rfl ?_
 have hl:=hl.addG (g:=gT none []) (.inl ⟨rfl,rfl,rfl⟩)
 refine xe_sub (L':=[(4,.int .i64 0),(3,.slice none 0 0),(2,.slice none 0 0),(0,.slice a C.length cap)]) ⟨rfl,rfl,rfl,rfl,trivial⟩ ?_
 refine xp_loop rfl (fun m Le S'=>∃(i:Nat) (av:Option Addr) (O:List Ti),i≤C.length∧m=C.length-i∧O.length=i∧SubE [(4,.int .i64 (i:Int)),(3,.slice av O.length O.length),(2,.slice none 0 0),(0,.slice a C.length cap)] Le∧HoldG S [S] S' [] [gT av O]) ?_ (m:=C.length) ⟨0,none,[],by omega,by omega,rfl,⟨rfl,rfl,rfl,rfl,trivial⟩,hl⟩
 clear hl;rintro m Le S' ⟨i,av,O,hi,rfl,hO,hsub,hl⟩;refine xe_sub hsub ?_
 refine zg ?_
 constructor<;>intro h8
 ·
  have hlt:i<C.length:=by have:=of_decide_eq_true h8;omega
  obtain⟨x,hx⟩:=nth_some hlt
  obtain⟨b1,o1,cs1,ha,_,hrow,htk⟩:=hv.elem hx
  refine zg ?_;refine re_buildSliceR hl rfl rfl rfl rfl rfl Tryz.underlying91 rfl (c:=x.du.cells) (by kernel_rfl) ?_;intro B17 S7 hr17 hl;refine re_appendG hl 0 rfl rfl (by simp) rfl rfl rfl rfl rfl rfl rfl Tryz.underlying91 Tryz.underlying91 rfl rfl (by kernel_rfl) (src_row_ (n:=1) (cap:=1) hr17 rfl) rfl rfl (by kernel_rfl) (by show O.length+1≤maxNeed;unfold maxNeed;omega) ?_;intro v18 S8 hl
  obtain⟨av2,rfl⟩:∃x,v18= .slice x (O.length+1) (O.length+1):=Grow.is_ (hl.gr _ (List.mem_cons_self ..))
  have hl:HoldG S [S] S8 _ [gT av2 (O++[x.du])]:=gT_ok hl
  refine zg ?_
  exact⟨C.length-(i+1),by omega,i+1,av2,_,by omega,rfl,by rw[len_push];omega,⟨rfl,by rw[len_push];rfl,rfl,rfl,trivial⟩,hl⟩
 refine zg ?_
 exact y1 rfl ⟨hl.keep,av,O,rfl,Grow.ls (f:=Ti.cells) (fun _=>rfl) (hl.gr _ (List.mem_cons_self ..))⟩
noncomputable def cd142:Code:=Tryz.f142.body.getD .skip
theorem spec142(p q r t:Int)(a:Option Addr)(cap:Nat)(C:List Sg)(hn:C.length≤1000)(hF:Fresh S)(hv:Sgs S (.slice a C.length cap) C):CC Tryz.prog KK 142 [mV4 p q r t,.slice a C.length cap] S (fun v S'=>Keep S S'∧(CntR p q r t C v)):=by
 refine cc_enter (c:=cd142) (n:=11) Tryz.func142 rfl rfl rfl (by kernel_rfl) rfl rfl ?_
 have hl:=Hold.start S
 refine zg ?_;refine re_boxL hl rfl rfl rfl rfl rfl rfl ?_
 intro B2 S2 hl
 refine zg ?_
 refine zc hl rfl (spec177 p q r t a cap C hn (hl.keep.3 hF) (hv.move (hl.since 0 rfl))) ?_;rintro v S1 hk1 hR hl
 obtain⟨c,e,rfl⟩:∃c e:Int,v=tupV [.int .i64 c,.int .i64 e]:=by
  rcases hR with ⟨c,e,_,rfl⟩|⟨_,c,e,_,_,_,rfl⟩<;>exact⟨_,_,rfl⟩
 refine zg ?_
 exact y2 rfl rfl ⟨hl.keep,hR⟩
structure Pt where
 aL:Option Addr
 cL:Nat
 aC:Option Addr
 cC:Nat
 aD:Option Addr
 cD:Nat
 L:List It
 C:List Int
 D:List Int
def Pt.cells(x:Pt):List Value:=[.slice x.aL x.L.length x.cL,.slice x.aC x.C.length x.cC,.slice x.aD x.D.length x.cD]
structure Pt.Ok(S:St)(x:Pt):Prop where
 l:Its S (.slice x.aL x.L.length x.cL) x.L
 c:Nums S (.slice x.aC x.C.length x.cC) x.C
 d:Nums S (.slice x.aD x.D.length x.cD) x.D
theorem Pt.Ok.move{S T:St}{x:Pt}(h:x.Ok S)(hk:RK S T):x.Ok T:=⟨LsOf.move hk h.l,LsOf.move hk h.c,LsOf.move hk h.d⟩
abbrev Pts:=LsOf 212 3 Pt.cells
abbrev gP(av:Option Addr)(D:List Pt):Gr:=gOf 212 3 Pt.cells (.slice av D.length D.length) D
theorem gP_ok{Ts:List St}{S0 S1:St}{l:List (Nat×Blk)}{av:Option Addr}{D:List Pt}{x:Pt}(h:HoldG S0 Ts S1 l [⟨.slice av (D.length+1) (D.length+1),212,3,(D.map Pt.cells).flatten++x.cells,D.length+1⟩]):HoldG S0 Ts S1 l [gP av (D++[x])]:=by
 unfold gP
 rw[gOf_push]
 exact h
structure PtOk(S:St)(n k:Nat)(x:Pt):Prop where
 o:x.Ok S
 l:x.L.length≤1000
 c:x.C.length=n
 d:x.D.length≤k
theorem PtOk.move{S T:St}{n k:Nat}{x:Pt}(h:PtOk S n k x)(hk:RK S T):PtOk T n k x:=⟨h.o.move hk,h.l,h.c,h.d⟩
end Go.Proofs.YtmfphenhpkgidaaGreatDoor
namespace Go.Proofs.YtmfphenhpkgidaaGreatDoor
open Go.Cm Go
set_option maxRecDepth 100000
variable{S:St}
noncomputable def cd185:Code:=Tryz.f185.body.getD .skip
set_option maxHeartbeats 4000000 in
theorem spec185(p q r t k:Int)(a:Option Addr)(cap:Nat)(C:List It)(ap:Option Addr)(cp:Nat)(P:List Int)(hk: -50≤k∧k≤50)(hn:C.length≤1000)(hp:P.length≤2001)(hF:Fresh S)(hv:Its S (.slice a C.length cap) C)(hP:Nums S (.slice ap P.length cp) P):CC Tryz.prog KK 185 [mV4 p q r t,.int .i64 k,.slice a C.length cap,.slice ap P.length cp] S (fun v S'=>Keep S S'∧(∃av D e,v=tupV [.slice av D.length D.length,.int .i64 e]∧Nums S' (.slice av D.length D.length) D∧D.length≤2)):=by
 refine cc_enter (c:=cd185) (n:=46) Tryz.func185 rfl rfl rfl (by kernel_rfl) rfl rfl ?_
 have hl:=Hold.start S
 refine zg ?_;refine re_boxL hl rfl rfl rfl rfl rfl rfl ?_
 intro B4 S2 hl
 have hP:=hP.move (hl.since 0 rfl)
 have hl0:=hl
 have hl:=hl.mark
 refine zg ?_
 refine zc hl rfl (spec232 p q r t k a cap C hk hn (hl.keep.3 hF) (hv.move (hl.since 1 rfl))) ?_;rintro v S1 hk1 hR hl
 rcases hR with ⟨_,e,he,rfl⟩|⟨Sm,B,x,rfl,hkm,hfit,hLn,hM0,hold,hst⟩
 ·
  refine zg ?_
  constructor<;>intro h21
  ·
   refine zg ?_
   exact(z2 rfl rfl ⟨hl.keep,none,[],e,rfl,LsOf.nil,Nat.zero_le _⟩)
  exact absurd (by simpa using h21) he
 have hP:=hP.move hkm.rk
 have hkS:Keep S Sm:=(hl0.keep).trans hkm
 have hFm:=hkS.3 hF
 have hgl:=hfit.g
 clear hl
 obtain⟨fN,fM,hN,hM,hl⟩:=hst
 refine zg ?_
 constructor<;>intro h30
 ·
  refine zg ?_
  exact(z2 rfl rfl ⟨hkS.trans hl.keep,none,[],_,rfl,LsOf.nil,Nat.zero_le _⟩)
 have hPG:P.length<x.G.length:=by have:=of_decide_eq_false h30;omega
 refine zg ?_;refine xe_sub (L':=[(12,.int .i64 0),(10,ptrTo B 0),(9,.int .i64 0),(8,.slice none 0 0),(3,.slice ap P.length cp)]) ⟨rfl,rfl,rfl,rfl,rfl,trivial⟩ ?_
 refine xp_loop rfl (fun m Le S'=>∃(i:Nat) (y:Sta),i≤P.length∧m=P.length-i∧y.M.length=i∧y.L=x.L∧y.G=x.G∧y.Fit∧y.Old Sm∧StH Sm S' B y∧SubE [(12,.int .i64 (i:Int)),(10,ptrTo B 0),(9,.int .i64 0),(8,.slice none 0 0),(3,.slice ap P.length cp)] Le) ?_ (m:=P.length) ⟨0,x,by omega,by omega,by rw[hM0];rfl,rfl,rfl,hfit,hold,⟨fN,fM,hN,hM,hl⟩,⟨rfl,rfl,rfl,rfl,rfl,trivial⟩⟩
 clear hl hN hM hfit hold;rintro m Le S' ⟨i,y,hi,rfl,hyi,hyL,hyG,hfit,hold,hst,hsub⟩;refine xe_sub hsub ?_
 have hst0:=hst
 obtain⟨fN,fM,hN,hM,hl⟩:=hst
 refine zg ?_
 constructor<;>intro h34
 ·
  have hlt:i<P.length:=by have:=of_decide_eq_true h34;omega
  obtain⟨c,hc⟩:=nth_some hlt
  obtain⟨b1,o1,cs1,ha,_,hrow,htk⟩:=hP.elem hc
  refine zg ?_
  refine re_call rfl rfl rfl rfl rfl rfl rfl (cc_mono (spec233 B y c (by rw[hyi,hyG];omega) hFm hfit hold hst0) ?_);rintro v S3 ⟨R,z,rfl,hst,hfz,hoz,hzL,hzG,hzM⟩
  refine rr rfl (rd_un rfl rfl rfl) ?_;refine zg ?_
  constructor<;>intro h43
  ·
   refine zg ?_
   exact blk_ret (thn_ret (round_ret (blk_ret ((z2 rfl rfl ⟨hkS.trans hst.keep,none,[],_,rfl,LsOf.nil,Nat.zero_le _⟩)))))
  have hR:R=true:=by simpa using h43
  rw[hR]at hzM
  have hzM:z.M.length=y.M.length+1:=hzM
  refine zg ?_
  exact⟨P.length-(i+1),by omega,i+1,z,by omega,rfl,by omega,hzL.trans hyL,hzG.trans hyG,hfz,hoz,hst,⟨rfl,rfl,rfl,rfl,rfl,trivial⟩⟩
 have hi2:i=P.length:=by have:=of_decide_eq_false h34;omega
 refine zg ?_
 refine zc hl rfl (spec234 B y (by rw[hyi,hyG];omega) (hl.keep.3 hFm) hst0.at_ hfit (hst0.ok hold)) ?_;rintro v S3 hk3 ⟨av,D,rfl,hD,hDl,_⟩ hl
 refine zg ?_
 exact y2 rfl rfl ⟨hkS.trans hl.keep,av,D,_,rfl,hD,hDl⟩
noncomputable def cd186:Code:=Tryz.f186.body.getD .skip
set_option maxHeartbeats 4000000 in
theorem spec186(p q r t k:Int)(a:Option Addr)(cap:Nat)(C:List It)(ap:Option Addr)(cp:Nat)(P:List Int)(hk: -50≤k∧k≤50)(hn:C.length≤1000)(_:P.length≤2001)(hF:Fresh S)(hv:Its S (.slice a C.length cap) C)(hP:Nums S (.slice ap P.length cp) P):CC Tryz.prog KK 186 [mV4 p q r t,.int .i64 k,.slice a C.length cap,.slice ap P.length cp] S (fun v S'=>Keep S S'∧(∃av D e,v=tupV [.slice av D.length D.length,.int .i64 e]∧Its S' (.slice av D.length D.length) D∧(D.length=C.length∨D.length=0))):=by
 refine cc_enter (c:=cd186) (n:=48) Tryz.func186 rfl rfl rfl (by kernel_rfl) rfl rfl ?_
 have hl:=Hold.start S
 refine zg ?_;refine re_boxL hl rfl rfl rfl rfl rfl rfl ?_
 intro B4 S2 hl
 have hP:=hP.move (hl.since 0 rfl)
 have hl0:=hl
 have hl:=hl.mark
 refine zg ?_
 refine zc hl rfl (spec232 p q r t k a cap C hk hn (hl.keep.3 hF) (hv.move (hl.since 1 rfl))) ?_;rintro v S1 hk1 hR hl
 rcases hR with ⟨_,e,he,rfl⟩|⟨Sm,B,x,rfl,hkm,hfit,hLn,hM0,hold,hst⟩
 ·
  refine zg ?_
  constructor<;>intro h21
  ·
   refine zg ?_
   exact(z2 rfl rfl ⟨hl.keep,none,[],e,rfl,LsOf.nil,.inr rfl⟩)
  exact absurd (by simpa using h21) he
 have hP:=hP.move hkm.rk
 have hkS:Keep S Sm:=(hl0.keep).trans hkm
 have hFm:=hkS.3 hF
 have hgl:=hfit.g
 clear hl
 obtain⟨fN,fM,hN,hM,hl⟩:=hst
 refine zg ?_
 constructor<;>intro h30
 ·
  refine zg ?_
  exact(z2 rfl rfl ⟨hkS.trans hl.keep,none,[],_,rfl,LsOf.nil,.inr rfl⟩)
 have hPG:P.length=x.G.length:=by have h:(P.length:Int)=x.G.length:=by simpa using h30
                                  omega
 refine zg ?_;refine xe_sub (L':=[(12,.int .i64 0),(10,ptrTo B 0),(9,.int .i64 0),(8,.slice none 0 0),(3,.slice ap P.length cp)]) ⟨rfl,rfl,rfl,rfl,rfl,trivial⟩ ?_
 refine xp_loop rfl (fun m Le S'=>∃(i:Nat) (y:Sta),i≤P.length∧m=P.length-i∧y.M.length=i∧y.L=x.L∧y.G=x.G∧y.Fit∧y.Old Sm∧StH Sm S' B y∧SubE [(12,.int .i64 (i:Int)),(10,ptrTo B 0),(9,.int .i64 0),(8,.slice none 0 0),(3,.slice ap P.length cp)] Le) ?_ (m:=P.length) ⟨0,x,by omega,by omega,by rw[hM0];rfl,rfl,rfl,hfit,hold,⟨fN,fM,hN,hM,hl⟩,⟨rfl,rfl,rfl,rfl,rfl,trivial⟩⟩
 clear hl hN hM hfit hold;rintro m Le S' ⟨i,y,hi,rfl,hyi,hyL,hyG,hfit,hold,hst,hsub⟩;refine xe_sub hsub ?_
 have hst0:=hst
 obtain⟨fN,fM,hN,hM,hl⟩:=hst
 refine zg ?_
 constructor<;>intro h34
 ·
  have hlt:i<P.length:=by have:=of_decide_eq_true h34;omega
  obtain⟨c,hc⟩:=nth_some hlt
  obtain⟨b1,o1,cs1,ha,_,hrow,htk⟩:=hP.elem hc
  refine zg ?_
  refine re_call rfl rfl rfl rfl rfl rfl rfl (cc_mono (spec233 B y c (by rw[hyi,hyG];omega) hFm hfit hold hst0) ?_);rintro v S3 ⟨R,z,rfl,hst,hfz,hoz,hzL,hzG,hzM⟩
  refine rr rfl (rd_un rfl rfl rfl) ?_;refine zg ?_
  constructor<;>intro h43
  ·
   refine zg ?_
   exact blk_ret (thn_ret (round_ret (blk_ret ((z2 rfl rfl ⟨hkS.trans hst.keep,none,[],_,rfl,LsOf.nil,.inr rfl⟩)))))
  have hR:R=true:=by simpa using h43
  rw[hR]at hzM
  have hzM:z.M.length=y.M.length+1:=hzM
  refine zg ?_
  exact⟨P.length-(i+1),by omega,i+1,z,by omega,rfl,by omega,hzL.trans hyL,hzG.trans hyG,hfz,hoz,hst,⟨rfl,rfl,rfl,rfl,rfl,trivial⟩⟩
 have hi2:i=P.length:=by have:=of_decide_eq_false h34;omega
 refine zg ?_
 exact y2 rfl rfl ⟨hkS.trans hl.keep,y.an,y.N,_,rfl,(hst0.ok hold).n,.inl (by rw[hfit.n,hyL,hLn])⟩
end Go.Proofs.YtmfphenhpkgidaaGreatDoor
namespace Go.Proofs.YtmfphenhpkgidaaGreatDoor
open Go.Cm Go
set_option maxRecDepth 100000
variable{S:St}
def LvlR(S':St)(kd:Nat)(v:Value):Prop:=(∃e:Int,e≠0∧v=tupV [.slice none 0 0,.int .i64 e])∨∃av Y,v=tupV [.slice av Y.length Y.length,.int .i64 0]∧Pts S' (.slice av Y.length Y.length) Y∧Y.length≤4096∧∀y,y∈Y→PtOk S' 0 (kd+2001) y
noncomputable def cd146:Code:=Tryz.f146.body.getD .skip
set_option maxHeartbeats 4000000 in
theorem spec146(p q r t k:Int)(a:Option Addr)(cap:Nat)(X:List Pt)(kd:Nat)(hk: -50≤k∧k≤50)(hn:X.length≤4096)(hkd:kd≤10000)(hF:Fresh S)(hv:Pts S (.slice a X.length cap) X)(hX:∀x,x∈X→PtOk S x.C.length kd x):CC Tryz.prog KK 146 [mV4 p q r t,.int .i64 k,.slice a X.length cap] S (fun v S'=>Keep S S'∧(LvlR S' kd v)):=by
 refine cc_enter (c:=cd146) (n:=159) Tryz.func146 rfl rfl rfl (by kernel_rfl) rfl rfl ?_
 have hl:=Hold.start S
 refine zg ?_;refine re_boxL hl rfl rfl rfl rfl rfl rfl ?_
 intro B3 S3 hl
 refine zA ?_;iterate 2 refine zS ?_
 refine xp_seq rfl ?_;refine zS ?_;refine xp_block rfl ?_
 have hl:=hl.addG (g:=gP none []) (.inl ⟨rfl,rfl,rfl⟩)
 refine xe_sub (L':=[(10,.int .i64 0),(9,.int .i64 0),(8,.slice none 0 0),(7,.int .i64 0),(6,.slice none 0 0),(3,ptrTo B3 0),(1,.int .i64 k),(2,.slice a X.length cap)]) ⟨rfl,rfl,rfl,rfl,rfl,rfl,rfl,rfl,trivial⟩ ?_
 refine xp_loop rfl (fun m Le S'=>∃(i N:Nat) (av:Option Addr) (H:List Pt),i≤X.length∧m=X.length-i∧N≤2001∧H.length≤i∧(∀x,x∈H→PtOk S' 0 kd x)∧SubE [(10,.int .i64 (i:Int)),(9,.int .i64 (N:Int)),(8,.slice av H.length H.length),(7,.int .i64 0),(6,.slice none 0 0),(3,ptrTo B3 0),(1,.int .i64 k),(2,.slice a X.length cap)] Le∧HoldG S [S] S' [(B3,.cells [.int .i64 p,.int .i64 q,.int .i64 r,.int .i64 t] 51 false true [])] [gP av H]) ?_ (m:=X.length) ⟨0,0,none,[],by omega,by omega,by omega,by simp,fun x hx=>(List.not_mem_nil hx).elim,⟨rfl,rfl,rfl,rfl,rfl,rfl,rfl,rfl,trivial⟩,hl⟩
 clear hl;rintro m Le S' ⟨i,N,av,H,hi,rfl,hN,hHl,hH,hsub,hl⟩;refine xe_sub hsub ?_
 refine zg ?_
 constructor<;>intro h26
 ·
  have hlt:i<X.length:=by have:=of_decide_eq_true h26;omega
  obtain⟨x,hx⟩:=nth_some hlt
  have hxo:=hX x (nth_mem hx)
  obtain⟨b1,o1,cs1,ha,_,hrow,htk⟩:=hv.elem hx
  have hl:=hl.mark
  refine zg ?_;refine xp_draw (idx:=[0,1,2,3,4,5,6,7,8,9,10,11,12]) rfl (by kernel_rfl) (by kernel_rfl) ?_;refine zg ?_
  refine zp hl rfl (spec184 p q r t k x.aL x.cL x.L hk hxo.l (hl.keep.3 hF) (hxo.o.l.move (hl.since 1 rfl))) ?_;rintro v S1 hk1 hR hl;refine⟨zt,?_⟩
  rcases hR with ⟨e,he,rfl⟩|⟨ag,G,rfl,hG,hGn,hGo⟩
  ·
   refine zg ?_
   constructor<;>intro h41
   ·exact absurd (by simpa using h41) he
   refine zg ?_
   exact⟨X.length-(i+1),by omega,i+1,N,av,H,by omega,rfl,hN,by omega,fun y hy=>(hH y hy).move (hl.since 0 rfl),⟨rfl,rfl,rfl,rfl,rfl,rfl,rfl,rfl,trivial⟩,hl.marks (Us:=[S]) (fun T hT=>List.mem_cons_of_mem _ hT)⟩
  refine zg ?_;refine xp_draw (idx:=[0,1,2,3,4,5,6,7,8,9,10,11,12,13,14]) rfl (by kernel_rfl) (by kernel_rfl) ?_;refine zg ?_
  obtain⟨y,hy⟩:∃y:Pt,y=⟨x.aL,x.cL,none,0,x.aD,x.cD,x.L,[],x.D⟩:=⟨_,rfl⟩
  have hyc:[Value.slice x.aL x.L.length x.cL,.slice none 0 0,.slice x.aD x.D.length x.cD]=y.cells:=by rw[hy];rfl
  refine pr rfl (rd_build rfl rfl (v:=aggL y.cells) (by rw[←hyc];rfl)) ?_;refine rp_buildSliceR hF hl rfl rfl rfl rfl rfl Tryz.underlying213 rfl (c:=y.cells) (by rw[←hyc];kernel_rfl) ?_;intro B54 S4 hg54 hr54 hl
  refine rp_appendG hl 0 rfl rfl (by simp) rfl rfl rfl rfl rfl rfl rfl Tryz.underlying213 Tryz.underlying213 rfl rfl (by kernel_rfl) (src_row_ (n:=1) (cap:=1) (new:=y.cells) hr54 rfl) rfl rfl (by kernel_rfl) (by show H.length+1≤maxNeed;unfold maxNeed;omega) ?_;intro v55 S5 hl;refine⟨zt,?_⟩
  obtain⟨av2,rfl⟩:∃x,v55= .slice x (H.length+1) (H.length+1):=Grow.is_ (hl.gr _ (List.mem_cons_self ..))
  have hl:HoldG S [S',S] S5 _ [gP av2 (H++[y])]:=gP_ok hl
  refine zg ?_
  refine⟨X.length-(i+1),by omega,i+1,G.length,av2,H++[y],by omega,rfl,by have:=hxo.l;omega,by rw[len_push];omega,fun z hz=>?_,⟨rfl,rfl,by rw[len_push];rfl,rfl,rfl,rfl,rfl,rfl,trivial⟩,hl.marks (Us:=[S]) (fun T hT=>List.mem_cons_of_mem _ hT)⟩
  rcases List.mem_append.1 hz with h|h
  ·exact(hH z h).move (hl.since 0 rfl)
  rw[List.mem_singleton.1 h,hy]
  exact⟨⟨hxo.o.l.move (hl.since 1 rfl),LsOf.nil,hxo.o.d.move (hl.since 1 rfl)⟩,hxo.l,rfl,hxo.d⟩
 have hP:=Grow.ls (f:=Pt.cells) (fun _=>rfl) (hl.gr _ (List.mem_cons_self ..))
 have hHn:H.length≤4096:=by omega
 have hl:=hold_drop hl
 clear hHl hi hsub
 refine xp_exit rfl ?_;refine xp_seq rfl ?_;refine zS ?_;refine xp_block rfl ?_;refine xe_sub (L':=[(13,.int .i64 0),(9,.int .i64 (N:Int)),(8,.slice av H.length H.length),(7,.int .i64 0),(6,.slice none 0 0),(3,ptrTo B3 0),(1,.int .i64 k)]) ⟨rfl,rfl,rfl,rfl,rfl,rfl,rfl,trivial⟩ ?_
 refine xp_loop rfl (fun m Le S'=>∃(n:Nat) (av:Option Addr) (H:List Pt),n≤N∧m=N-n∧H.length≤4096∧(∀x,x∈H→PtOk S' n kd x)∧Pts S' (.slice av H.length H.length) H∧SubE [(13,.int .i64 (n:Int)),(9,.int .i64 (N:Int)),(8,.slice av H.length H.length),(7,.int .i64 0),(6,.slice none 0 0),(3,ptrTo B3 0),(1,.int .i64 k)] Le∧HoldG S [S] S' [(B3,.cells [.int .i64 p,.int .i64 q,.int .i64 r,.int .i64 t] 51 false true [])] []) ?_ (m:=N) ⟨0,av,H,by omega,by omega,hHn,hH,hP,⟨rfl,rfl,rfl,rfl,rfl,rfl,rfl,trivial⟩,hl⟩
 clear hl hH hP hHn;rintro m Le S1 ⟨n,av,H,hi,rfl,hHn,hH,hP,hsub,hl⟩;refine xe_sub hsub ?_
 refine zg ?_
 constructor<;>intro h60
 ·
  have hlt:n<N:=by have:=of_decide_eq_true h60;omega
  have hl:=hl.mark
  refine xp_skip rfl ?_;refine xp_seq rfl ?_;refine xp_block rfl ?_;refine zS ?_;refine xp_seq rfl ?_;refine zS ?_;refine xp_block rfl ?_
  have hl:=hl.addG (g:=gP none []) (.inl ⟨rfl,rfl,rfl⟩)
  refine xe_sub (L':=[(15,.int .i64 0),(14,.slice none 0 0),(13,.int .i64 (n:Int)),(9,.int .i64 (N:Int)),(8,.slice av H.length H.length),(7,.int .i64 0),(6,.slice none 0 0),(3,ptrTo B3 0),(1,.int .i64 k)]) ⟨rfl,rfl,rfl,rfl,rfl,rfl,rfl,rfl,rfl,trivial⟩ ?_
  refine xp_loop rfl (fun m Le S'=>∃(i:Nat) (ao:Option Addr) (O:List Pt),i≤H.length∧m=H.length-i∧O.length≤2*i∧(∀x,x∈O→PtOk S' (n+1) kd x)∧SubE [(15,.int .i64 (i:Int)),(14,.slice ao O.length O.length),(13,.int .i64 (n:Int)),(9,.int .i64 (N:Int)),(8,.slice av H.length H.length),(7,.int .i64 0),(6,.slice none 0 0),(3,ptrTo B3 0),(1,.int .i64 k)] Le∧HoldG S [S1,S] S' [(B3,.cells [.int .i64 p,.int .i64 q,.int .i64 r,.int .i64 t] 51 false true [])] [gP ao O]) ?_ (m:=H.length) ⟨0,none,[],by omega,by omega,by simp,fun x hx=>(List.not_mem_nil hx).elim,⟨rfl,rfl,rfl,rfl,rfl,rfl,rfl,rfl,rfl,trivial⟩,hl⟩
  clear hl;rintro m Le S' ⟨i,ao,O,hi2,rfl,hOl,hO,hsub,hl⟩;refine xe_sub hsub ?_
  refine zg ?_
  constructor<;>intro h66
  ·
   have hlt2:i<H.length:=by have:=of_decide_eq_true h66;omega
   obtain⟨x,hx⟩:=nth_some hlt2
   have hxo:=hH x (nth_mem hx)
   have hl:=hl.mark
   obtain⟨b1,o1,cs1,ha,_,hrow,htk⟩:=(hP.move (hl.since 1 rfl)).elem hx
   refine zg ?_;refine xp_draw (idx:=[0,1,2,3,4,5,6,7,8,9,10,11,12,13,14,15,16,17]) rfl (by kernel_rfl) (by kernel_rfl) ?_;refine zg ?_
   refine zp hl rfl (spec185 p q r t k x.aL x.cL x.L x.aC x.cC x.C hk hxo.l (by rw[hxo.c];omega) (hl.keep.3 hF) (hxo.o.l.move (hl.since 1 rfl)) (hxo.o.c.move (hl.since 1 rfl))) ?_;rintro v S2 hk2 ⟨ac,D,e,rfl,hD,hDn⟩ hl;refine⟨zt,?_⟩
   have hO:=fun y hy=>(hO y hy).move (hl.since 0 rfl)
   have hl:HoldG S [S2,S1,S] S2 _ [gP ao O]:=hl.mark.marks (fun T hT=>by
    rcases List.mem_cons.1 hT with h|h
    ·exact List.mem_cons.2 (.inl h)
    exact List.mem_cons_of_mem _ (List.mem_cons_of_mem _ h))
   clear ha hrow htk
   refine zA ?_;refine zS ?_;refine xp_block rfl ?_;refine xe_sub (L':=[(18,.int .i64 0),(16,.slice ac D.length D.length),(15,.int .i64 (i:Int)),(14,.slice ao O.length O.length),(13,.int .i64 (n:Int)),(9,.int .i64 (N:Int)),(8,.slice av H.length H.length),(7,.int .i64 0),(6,.slice none 0 0),(3,ptrTo B3 0),(1,.int .i64 k)]) ⟨rfl,rfl,rfl,rfl,rfl,rfl,rfl,rfl,rfl,rfl,rfl,trivial⟩ ?_
   refine xp_loop rfl (fun m Le S'=>∃(j:Nat) (ao:Option Addr) (O:List Pt),j≤D.length∧m=D.length-j∧O.length≤2*i+j∧(∀x,x∈O→PtOk S' (n+1) kd x)∧SubE [(18,.int .i64 (j:Int)),(16,.slice ac D.length D.length),(15,.int .i64 (i:Int)),(14,.slice ao O.length O.length),(13,.int .i64 (n:Int)),(9,.int .i64 (N:Int)),(8,.slice av H.length H.length),(7,.int .i64 0),(6,.slice none 0 0),(3,ptrTo B3 0),(1,.int .i64 k)] Le∧HoldG S [S2,S1,S] S' [(B3,.cells [.int .i64 p,.int .i64 q,.int .i64 r,.int .i64 t] 51 false true [])] [gP ao O]) ?_ (m:=D.length) ⟨0,ao,O,by omega,by omega,by omega,hO,⟨rfl,rfl,rfl,rfl,rfl,rfl,rfl,rfl,rfl,rfl,rfl,trivial⟩,hl⟩
   clear hl hO hOl hsub;rintro m Le S' ⟨j,ao,O,hj,rfl,hOl,hO,hsub,hl⟩;refine xe_sub hsub ?_
   refine zg ?_
   constructor<;>intro h88
   ·
    have hlt3:j<D.length:=by have:=of_decide_eq_true h88;omega
    obtain⟨c,hc⟩:=nth_some hlt3
    have hl:=hl.mark
    obtain⟨b1,o1,cs1,ha,_,hrow,htk⟩:=(hP.move (hl.since 2 rfl)).elem hx
    obtain⟨b2,o2,cs2,ha2,_,hrow2,htk2⟩:=(hD.move (hl.since 1 rfl)).elem hc
    refine zg ?_;refine xp_draw (idx:=[0,1,2,3,4,5,6,7,8,9,10,11,12,13,14,15,17,18,19,20,21,16,22,23,24,25]) rfl (by kernel_rfl) (by kernel_rfl) ?_;refine zg ?_;refine rp_buildSliceR hF hl rfl rfl rfl rfl rfl Tryz.underlying38 rfl (c:=ic c) (by kernel_rfl) ?_;intro B106 S4 hg106 hr106 hl;refine zg ?_
    refine zp hl rfl (spec147 x.aC x.cC x.C (some ⟨B106,0,none⟩) 1 [c] (by rw[hxo.c];omega) (by show 1≤100000;omega) (hxo.o.c.move (hl.since 2 rfl)) (LsOf.row (f:=ic) (C:=[c]) (fun _=>rfl) hr106 rfl)) ?_;rintro v S5 hk5 ⟨aw,rfl,hW⟩ hl;refine⟨zt,?_⟩
    have hl:=hl.mark
    obtain⟨y,hy⟩:∃y:Pt,y=⟨x.aL,x.cL,aw,(x.C++[c]).length,x.aD,x.cD,x.L,x.C++[c],x.D⟩:=⟨_,rfl⟩
    have hyc:[Value.slice x.aL x.L.length x.cL,.slice aw (x.C++[c]).length (x.C++[c]).length,.slice x.aD x.D.length x.cD]=y.cells:=by rw[hy];rfl
    refine pr rfl (rd_build rfl rfl (v:=aggL y.cells) (by rw[←hyc];rfl)) ?_;refine rp_buildSliceR hF hl rfl rfl rfl rfl rfl Tryz.underlying213 rfl (c:=y.cells) (by rw[←hyc];kernel_rfl) ?_;intro B114 S6 hg114 hr114 hl
    refine rp_appendG hl 0 rfl rfl (by simp) rfl rfl rfl rfl rfl rfl rfl Tryz.underlying213 Tryz.underlying213 rfl rfl (by kernel_rfl) (src_row_ (n:=1) (cap:=1) (new:=y.cells) hr114 rfl) rfl rfl (by kernel_rfl) (by show O.length+1≤maxNeed;unfold maxNeed;omega) ?_;intro v115 S7 hl;refine⟨zt,?_⟩
    obtain⟨ao2,rfl⟩:∃x,v115= .slice x (O.length+1) (O.length+1):=Grow.is_ (hl.gr _ (List.mem_cons_self ..))
    have hl:HoldG S [S5,S',S2,S1,S] S7 _ [gP ao2 (O++[y])]:=gP_ok hl
    refine zg ?_
    refine⟨D.length-(j+1),by omega,j+1,ao2,O++[y],by omega,rfl,by rw[len_push];omega,fun z hz=>?_,⟨rfl,rfl,rfl,by rw[len_push O y];rfl,rfl,rfl,rfl,rfl,rfl,rfl,rfl,trivial⟩,hl.marks (Us:=[S2,S1,S]) (fun T hT=>List.mem_cons_of_mem _ (List.mem_cons_of_mem _ hT))⟩
    rcases List.mem_append.1 hz with h|h
    ·exact(hO z h).move (hl.since 1 rfl)
    rw[List.mem_singleton.1 h,hy]
    exact⟨⟨hxo.o.l.move (hl.since 3 rfl),hW.move (hl.since 0 rfl),hxo.o.d.move (hl.since 3 rfl)⟩,hxo.l,by rw[len_push,hxo.c],hxo.d⟩
   refine zg ?_
   exact⟨H.length-(i+1),by omega,i+1,ao,O,by omega,rfl,by omega,hO,⟨rfl,rfl,rfl,rfl,rfl,rfl,rfl,rfl,rfl,trivial⟩,hl.marks (Us:=[S1,S]) (fun T hT=>List.mem_cons_of_mem _ hT)⟩
  refine zg ?_
  constructor<;>intro h118
  ·
   refine zg ?_
   exact thn_ret (blk_ret (thn_ret (round_ret (blk_ret ((z2 rfl rfl ⟨hl.keep,.inl ⟨_,by decide,rfl⟩⟩))))))
  have hOn:O.length≤4096:=by have:=of_decide_eq_false h118;omega
  refine zg ?_
  exact⟨N-(n+1),by omega,n+1,ao,O,by omega,rfl,hOn,hO,Grow.ls (f:=Pt.cells) (fun _=>rfl) (hl.gr _ (List.mem_cons_self ..)),⟨rfl,rfl,rfl,rfl,rfl,rfl,rfl,trivial⟩,(hold_drop hl).marks (Us:=[S]) (fun T hT=>List.mem_cons_of_mem _ hT)⟩
 have hnN:n=N:=by have:=of_decide_eq_false h60;omega
 subst hnN
 have hl:=hl.mark
 refine xp_exit rfl ?_;refine zS ?_;refine xp_seq rfl ?_;refine zS ?_;refine xp_block rfl ?_
 have hl:=hl.addG (g:=gP none []) (.inl ⟨rfl,rfl,rfl⟩)
 refine xe_sub (L':=[(20,.int .i64 0),(19,.slice none 0 0),(8,.slice av H.length H.length),(7,.int .i64 0),(6,.slice none 0 0),(3,ptrTo B3 0),(1,.int .i64 k)]) ⟨rfl,rfl,rfl,rfl,rfl,rfl,rfl,trivial⟩ ?_
 refine xp_loop rfl (fun m Le S'=>∃(i:Nat) (ao:Option Addr) (O:List Pt),i≤H.length∧m=H.length-i∧O.length=i∧(∀x,x∈O→PtOk S' 0 (kd+2001) x)∧SubE [(20,.int .i64 (i:Int)),(19,.slice ao O.length O.length),(8,.slice av H.length H.length),(7,.int .i64 0),(6,.slice none 0 0),(3,ptrTo B3 0),(1,.int .i64 k)] Le∧HoldG S [S1,S] S' [(B3,.cells [.int .i64 p,.int .i64 q,.int .i64 r,.int .i64 t] 51 false true [])] [gP ao O]) ?_ (m:=H.length) ⟨0,none,[],by omega,by omega,rfl,fun x hx=>(List.not_mem_nil hx).elim,⟨rfl,rfl,rfl,rfl,rfl,rfl,rfl,trivial⟩,hl⟩
 clear hl;rintro m Le S' ⟨i,ao,O,hi2,rfl,hOl,hO,hsub,hl⟩;refine xe_sub hsub ?_
 refine zg ?_
 constructor<;>intro h123
 ·
  have hlt2:i<H.length:=by have:=of_decide_eq_true h123;omega
  obtain⟨x,hx⟩:=nth_some hlt2
  have hxo:=hH x (nth_mem hx)
  have hl:=hl.mark
  obtain⟨b1,o1,cs1,ha,_,hrow,htk⟩:=(hP.move (hl.since 1 rfl)).elem hx
  refine zg ?_;refine xp_draw (idx:=[0,1,2,3,4,5,6,7,8,9,10,11,12,13,14,15,16,17]) rfl (by kernel_rfl) (by kernel_rfl) ?_;refine zg ?_
  refine zp hl rfl (spec186 p q r t k x.aL x.cL x.L x.aC x.cC x.C hk hxo.l (by rw[hxo.c];omega) (hl.keep.3 hF) (hxo.o.l.move (hl.since 1 rfl)) (hxo.o.c.move (hl.since 1 rfl))) ?_;rintro v S2 hk2 ⟨ac,D,e,rfl,hD,hDn⟩ hl;refine⟨zt,?_⟩
  have hl:=hl.mark
  clear ha hrow htk
  obtain⟨b1,o1,cs1,ha,_,hrow,htk⟩:=(hP.move (hl.since 2 rfl)).elem hx
  refine zg ?_;refine xp_draw (idx:=[0,1,2,3,4,5,6,7,8,9,10,11,12,13,14,15,16]) rfl (by kernel_rfl) (by kernel_rfl) ?_;refine zg ?_
  refine zp hl rfl (spec147 x.aD x.cD x.D x.aC x.cC x.C (by have:=hxo.d;omega) (by rw[hxo.c];omega) (hxo.o.d.move (hl.since 2 rfl)) (hxo.o.c.move (hl.since 2 rfl))) ?_;rintro v S5 hk5 ⟨aw,rfl,hW⟩ hl;refine⟨zt,?_⟩
  have hl:=hl.mark
  obtain⟨y,hy⟩:∃y:Pt,y=⟨ac,D.length,none,0,aw,(x.D++x.C).length,D,[],x.D++x.C⟩:=⟨_,rfl⟩
  have hyc:[Value.slice ac D.length D.length,.slice none 0 0,.slice aw (x.D++x.C).length (x.D++x.C).length]=y.cells:=by rw[hy];rfl
  refine pr rfl (rd_build rfl rfl (v:=aggL y.cells) (by rw[←hyc];rfl)) ?_;refine rp_buildSliceR hF hl rfl rfl rfl rfl rfl Tryz.underlying213 rfl (c:=y.cells) (by rw[←hyc];kernel_rfl) ?_;intro B156 S6 hg156 hr156 hl
  refine rp_appendG hl 0 rfl rfl (by simp) rfl rfl rfl rfl rfl rfl rfl Tryz.underlying213 Tryz.underlying213 rfl rfl (by kernel_rfl) (src_row_ (n:=1) (cap:=1) (new:=y.cells) hr156 rfl) rfl rfl (by kernel_rfl) (by show O.length+1≤maxNeed;unfold maxNeed;omega) ?_;intro v157 S7 hl;refine⟨zt,?_⟩
  obtain⟨ao2,rfl⟩:∃x,v157= .slice x (O.length+1) (O.length+1):=Grow.is_ (hl.gr _ (List.mem_cons_self ..))
  have hl:HoldG S [S5,S2,S',S1,S] S7 _ [gP ao2 (O++[y])]:=gP_ok hl
  refine zg ?_
  refine⟨H.length-(i+1),by omega,i+1,ao2,O++[y],by omega,rfl,by rw[len_push];omega,fun z hz=>?_,⟨rfl,by rw[len_push O y];rfl,rfl,rfl,rfl,rfl,rfl,trivial⟩,hl.marks (Us:=[S1,S]) (fun T hT=>List.mem_cons_of_mem _ (List.mem_cons_of_mem _ (List.mem_cons_of_mem _ hT)))⟩
  rcases List.mem_append.1 hz with h|h
  ·exact(hO z h).move (hl.since 2 rfl)
  rw[List.mem_singleton.1 h,hy]
  exact⟨⟨hD.move (hl.since 1 rfl),LsOf.nil,hW.move (hl.since 0 rfl)⟩,by have:=hxo.l;show D.length≤1000;omega,rfl,by show(x.D++x.C).length≤_;rw[List.length_append,hxo.c];have:=hxo.d;omega⟩
 have hi3:i=H.length:=by have:=of_decide_eq_false h123;omega
 subst hi3
 refine zg ?_
 exact y2 rfl rfl ⟨hl.keep,.inr ⟨ao,O,rfl,Grow.ls (f:=Pt.cells) (fun _=>rfl) (hl.gr _ (List.mem_cons_self ..)),by omega,hO⟩⟩
end Go.Proofs.YtmfphenhpkgidaaGreatDoor
namespace Go.Proofs.YtmfphenhpkgidaaGreatDoor
open Go.Cm Go
set_option maxRecDepth 100000
variable{S:St}
structure Rq where
 a1:Option Addr
 n1:Nat
 a2:Option Addr
 n2:Nat
 a3:Option Addr
 n3:Nat
 a4:Option Addr
 n4:Nat
def Rq.cells(x:Rq):List Value:=[.slice x.a1 x.n1 x.n1,.slice x.a2 x.n2 x.n2,.slice x.a3 x.n3 x.n3,.slice x.a4 x.n4 x.n4]
abbrev gQ(av:Option Addr)(D:List Rq):Gr:=gOf 118 4 Rq.cells (.slice av D.length D.length) D
theorem gQ_ok{Ts:List St}{S0 S1:St}{l:List (Nat×Blk)}{av:Option Addr}{D:List Rq}{x:Rq}(h:HoldG S0 Ts S1 l [⟨.slice av (D.length+1) (D.length+1),118,4,(D.map Rq.cells).flatten++x.cells,D.length+1⟩]):HoldG S0 Ts S1 l [gQ av (D++[x])]:=by
 unfold gQ
 rw[gOf_push]
 exact h
def AllR(v:Value):Prop:=(∃e:Int,e≠0∧v=tupV [.slice none 0 0,.int .i64 e])∨∃(av:Option Addr) (n:Nat),v=tupV [.slice av n n,.int .i64 0]∧n≤4096
noncomputable def cd112:Code:=Tryz.f112.body.getD .skip
set_option maxHeartbeats 4000000 in
theorem spec112(p q r t:Int)(a:Option Addr)(cap:Nat)(C:List Sg)(hn:C.length≤1000)(hF:Fresh S)(hv:Sgs S (.slice a C.length cap) C):CC Tryz.prog KK 112 [mV4 p q r t,.slice a C.length cap] S (fun v S'=>Keep S S'∧(AllR v)):=by
 refine cc_enter (c:=cd112) (n:=112) Tryz.func112 rfl rfl rfl (by kernel_rfl) rfl rfl ?_
 have hl:=Hold.start S
 refine zg ?_;refine re_boxL hl rfl rfl rfl rfl rfl rfl ?_
 intro B2 S2 hl
 refine zg ?_
 refine zc hl rfl (spec142 p q r t a cap C hn (hl.keep.3 hF) (hv.move (hl.since 0 rfl))) ?_;rintro v S1 hk1 hR hl
 rcases hR with ⟨c,e,he,rfl⟩|⟨hok,c,e,he,hc1,hc2,rfl⟩
 ·
  refine zg ?_
  constructor<;>intro h27
  ·
   refine zg ?_
   exact z2 rfl rfl ⟨hl.keep,.inl ⟨e,he,rfl⟩⟩
  exact absurd (by simpa using h27) he
 refine zg ?_
 constructor<;>intro h27
 ·exact absurd he (by simpa using h27)
 refine zg ?_
 refine zc hl rfl (spec143 p q r t) ?_;rintro v S3 hk3 hL hl
 obtain⟨al,D,e2,rfl,hD,hDn,hDb⟩:∃(al:Option Addr) (D:List Int) (e2:Int),v=tupV [.slice al D.length D.length,.int .i64 e2]∧Nums S3 (.slice al D.length D.length) D∧D.length≤4∧∀x,x∈D→1≤x∧x≤4:=by
  rcases hL with ⟨e2,_,rfl⟩|⟨al,D,rfl,h1,h2,h3⟩
  ·exact⟨none,[],e2,rfl,LsOf.nil,by simp,fun x hx=>(List.not_mem_nil hx).elim⟩
  exact⟨al,D,0,rfl,h1,h2,h3⟩
 clear hL
 have hl:=hl.mark
 refine zA ?_;refine zS ?_;refine xp_seq rfl ?_;refine zS ?_;refine xp_block rfl ?_
 have hl:=hl.addG (g:=gQ none []) (.inl ⟨rfl,rfl,rfl⟩)
 refine xe_sub (L':=[(11,.int .i64 0),(10,.slice none 0 0),(8,.slice al D.length D.length),(7,.int .i64 e),(6,.int .i64 c),(5,.int .i64 0),(4,.slice none 0 0),(2,ptrTo B2 0),(1,.slice a C.length cap)]) ⟨rfl,rfl,rfl,rfl,rfl,rfl,rfl,rfl,rfl,trivial⟩ ?_
 clear he h27
 refine xp_loop rfl (fun m Le S'=>∃(i:Nat) (e:Int) (ao:Option Addr) (O:List Rq),i≤c∧m=c.toNat-i∧O.length≤4096*i∧SubE [(11,.int .i64 (i:Int)),(10,.slice ao O.length O.length),(8,.slice al D.length D.length),(7,.int .i64 e),(6,.int .i64 c),(5,.int .i64 0),(4,.slice none 0 0),(2,ptrTo B2 0),(1,.slice a C.length cap)] Le∧HoldG S [S3,S] S' [(B2,.cells [.int .i64 p,.int .i64 q,.int .i64 r,.int .i64 t] 51 false true [])] [gQ ao O]) ?_ (m:=c.toNat) ⟨0,e,none,[],by omega,by omega,by simp,⟨rfl,rfl,rfl,rfl,rfl,rfl,rfl,rfl,rfl,trivial⟩,hl⟩
 clear hl e;rintro m Le S' ⟨i,e,ao,O,hi,rfl,hOl,hsub,hl⟩;refine xe_sub hsub ?_
 refine zg ?_
 constructor<;>intro h36
 ·
  have hlt:(i:Int)<c:=of_decide_eq_true h36
  refine zg ?_
  refine zc hl rfl (spec144 p q r t a cap C (i:Int) hn (hl.keep.3 hF) (hv.move (hl.since 1 rfl))) ?_;rintro v S4 hk4 hR hl
  obtain⟨ak,K,aw,W,e3,rfl,hK,hW,hKn,hWn⟩:∃ak K aw W,∃e3:Int,v=tupV [.slice ak K.length K.length,.slice aw W.length W.length,.int .i64 e3]∧Nums S4 (.slice ak K.length K.length) K∧Nums S4 (.slice aw W.length W.length) W∧K.length≤1000∧W.length≤1000:=by
   rcases hR with ⟨e3,_,rfl⟩|⟨ak,K,aw,W,rfl,h1,h2,h3,h4⟩
   ·exact⟨none,[],none,[],e3,rfl,LsOf.nil,LsOf.nil,by simp,by simp⟩
   exact⟨ak,K,aw,W,0,rfl,h1,h2,h3,h4⟩
  clear hR
  have hl:=hl.mark
  refine zg ?_
  refine zc hl rfl (spec145 p q r t a cap C ak K.length K aw W.length W hn hKn hWn (hl.keep.3 hF) (hv.move (hl.since 2 rfl)) (hK.move (hl.since 0 rfl)) (hW.move (hl.since 0 rfl))) ?_;rintro v S5 hk5 hR hl
  obtain⟨ai,I,e4,rfl,hI,hIn⟩:∃ai I,∃e4:Int,v=tupV [.slice ai I.length I.length,.int .i64 e4]∧Its S5 (.slice ai I.length I.length) I∧I.length≤1000:=by
   have hnd:=nd_le (C:=C) C.length
   rcases hR with ⟨e3,_,rfl⟩|⟨ak,K,rfl,h1,h2⟩
   ·exact⟨none,[],e3,rfl,LsOf.nil,by simp⟩
   exact⟨ak,K,0,rfl,h1,by omega⟩
  clear hR
  have hl:=hl.mark
  refine zg ?_
  obtain⟨y,hy⟩:∃y:Pt,y=⟨ai,I.length,none,0,none,0,I,[],[]⟩:=⟨_,rfl⟩
  have hyc:[Value.slice ai I.length I.length,.slice none 0 0,.slice none 0 0]=y.cells:=by rw[hy];rfl
  refine rr rfl (rd_build rfl rfl (v:=aggL y.cells) (by rw[←hyc];rfl)) ?_;refine re_buildSliceR hl rfl rfl rfl rfl rfl Tryz.underlying213 rfl (c:=y.cells) (by rw[←hyc];kernel_rfl) ?_;intro B57 S6 hr57 hl
  have hX:Pts S6 (.slice (some ⟨B57,0,none⟩) [y].length 1) [y]:=LsOf.row (f:=Pt.cells) (C:=[y]) (fun _=>rfl) hr57 rfl
  have hXo:∀x,x∈[y]→PtOk S6 0 0 x:=fun x hx=>by
   rw[List.mem_singleton.1 hx,hy]
   exact⟨⟨hI.move (hl.since 0 rfl),LsOf.nil,LsOf.nil⟩,hIn,rfl,by simp⟩
  have hl:HoldG S [S4,S3,S] S6 _ _:=hl.marks (fun T hT=>List.mem_cons_of_mem _ hT)
  refine zA ?_;refine xp_seq rfl ?_;refine zS ?_;refine xp_block rfl ?_;refine xe_sub (L':=[(18,.int .i64 0),(17,.slice (some ⟨B57,0,none⟩) [y].length 1),(13,.slice aw W.length W.length),(12,.slice ak K.length K.length),(11,.int .i64 (i:Int)),(10,.slice ao O.length O.length),(8,.slice al D.length D.length),(7,.int .i64 e),(6,.int .i64 c),(5,.int .i64 0),(4,.slice none 0 0),(2,ptrTo B2 0),(1,.slice a C.length cap)]) ⟨rfl,rfl,rfl,rfl,rfl,rfl,rfl,rfl,rfl,rfl,rfl,rfl,rfl,trivial⟩ ?_
  refine xp_loop rfl (fun m Le S'=>∃(k:Nat) (e:Int) (ax:Option Addr) (cx:Nat) (X:List Pt),k≤D.length∧m=D.length-k∧X.length≤4096∧Pts S' (.slice ax X.length cx) X∧(∀x,x∈X→PtOk S' 0 (2001*k) x)∧SubE [(18,.int .i64 (k:Int)),(17,.slice ax X.length cx),(13,.slice aw W.length W.length),(12,.slice ak K.length K.length),(11,.int .i64 (i:Int)),(10,.slice ao O.length O.length),(8,.slice al D.length D.length),(7,.int .i64 e),(6,.int .i64 c),(5,.int .i64 0),(4,.slice none 0 0),(2,ptrTo B2 0),(1,.slice a C.length cap)] Le∧HoldG S [S4,S3,S] S' [(B2,.cells [.int .i64 p,.int .i64 q,.int .i64 r,.int .i64 t] 51 false true [])] [gQ ao O]) ?_ (m:=D.length) ⟨0,e,_,_,[y],by omega,by omega,by show 1≤4096;omega,hX,hXo,⟨rfl,rfl,rfl,rfl,rfl,rfl,rfl,rfl,rfl,rfl,rfl,rfl,rfl,trivial⟩,hl⟩
  clear hl hX hXo hyc hsub;rintro m Le S' ⟨k,e,ax,cx,X,hk,rfl,hXn,hX,hXo,hsub,hl⟩;refine xe_sub hsub ?_
  refine zg ?_
  constructor<;>intro h61
  ·
   have hlt2:k<D.length:=by have:=of_decide_eq_true h61;omega
   obtain⟨d,hd2⟩:=nth_some hlt2
   have hdb:=hDb d (nth_mem hd2)
   obtain⟨b1,o1,cs1,ha,_,hrow,htk⟩:=(hD.move (hl.since 1 rfl)).elem hd2
   refine zg ?_;refine xp_draw (idx:=[0,1,2,3,4,5,6,7,8,9,10,11]) rfl (by kernel_rfl) (by kernel_rfl) ?_;refine zg ?_
   refine zp hl rfl (spec146 p q r t d ax cx X (2001*k) (by omega) hXn (by omega) (hl.keep.3 hF) hX (fun x hx=>by rw[(hXo x hx).c];exact hXo x hx)) ?_;rintro v S7 hk7 hR hl;refine⟨zt,?_⟩
   clear ha hrow htk
   rcases hR with ⟨e5,he5,rfl⟩|⟨ay,Y,rfl,hY,hYn,hYo⟩
   ·
    refine zg ?_
    constructor<;>intro h75
    ·
     refine zg ?_
     exact blk_ret (thn_ret (round_ret (blk_ret (thn_ret (blk_ret (thn_ret (round_ret (blk_ret ((z2 rfl rfl ⟨hl.keep,.inl ⟨e5,he5,rfl⟩⟩))))))))))
    exact absurd (by simpa using h75) he5
   refine zg ?_
   exact⟨D.length-(k+1),by omega,k+1,0,ay,Y.length,Y,by omega,rfl,hYn,hY,hYo,⟨rfl,rfl,rfl,rfl,rfl,rfl,rfl,rfl,rfl,rfl,rfl,rfl,rfl,trivial⟩,hl⟩
  have hXg:∀x,x∈X→PtOk S' 0 10000 x:=fun x hx=>⟨(hXo x hx).o,(hXo x hx).l,(hXo x hx).c,by have:=(hXo x hx).d;omega⟩
  have hl:=hl.mark
  clear hXo hk hsub
  refine xp_exit rfl ?_;refine zS ?_;refine xp_block rfl ?_;refine xe_sub (L':=[(19,.int .i64 0),(17,.slice ax X.length cx),(13,.slice aw W.length W.length),(12,.slice ak K.length K.length),(11,.int .i64 (i:Int)),(10,.slice ao O.length O.length),(8,.slice al D.length D.length),(7,.int .i64 e),(6,.int .i64 c),(5,.int .i64 0),(4,.slice none 0 0),(2,ptrTo B2 0),(1,.slice a C.length cap)]) ⟨rfl,rfl,rfl,rfl,rfl,rfl,rfl,rfl,rfl,rfl,rfl,rfl,rfl,trivial⟩ ?_
  refine xp_loop rfl (fun m Le S9=>∃(j:Nat) (ao:Option Addr) (O:List Rq),j≤X.length∧m=X.length-j∧O.length≤4096*i+j∧SubE [(19,.int .i64 (j:Int)),(17,.slice ax X.length cx),(13,.slice aw W.length W.length),(12,.slice ak K.length K.length),(11,.int .i64 (i:Int)),(10,.slice ao O.length O.length),(8,.slice al D.length D.length),(7,.int .i64 e),(6,.int .i64 c),(5,.int .i64 0),(4,.slice none 0 0),(2,ptrTo B2 0),(1,.slice a C.length cap)] Le∧HoldG S [S',S4,S3,S] S9 [(B2,.cells [.int .i64 p,.int .i64 q,.int .i64 r,.int .i64 t] 51 false true [])] [gQ ao O]) ?_ (m:=X.length) ⟨0,ao,O,by omega,by omega,by omega,⟨rfl,rfl,rfl,rfl,rfl,rfl,rfl,rfl,rfl,rfl,rfl,rfl,rfl,trivial⟩,hl⟩
  clear hl hOl;rintro m Le S9 ⟨j,ao,O,hj,rfl,hOl,hsub,hl⟩;refine xe_sub hsub ?_
  refine zg ?_
  constructor<;>intro h80
  ·
   have hlt3:j<X.length:=by have:=of_decide_eq_true h80;omega
   obtain⟨x,hx⟩:=nth_some hlt3
   have hxo:=hXg x (nth_mem hx)
   have hl:=hl.mark
   obtain⟨b1,o1,cs1,ha,_,hrow,htk⟩:=(hX.move (hl.since 1 rfl)).elem hx
   refine zg ?_;refine xp_draw (idx:=[0,1,3,5,6,7,8,9,11,12,13,14,15,2,4,10,16,17,18,19,20]) rfl (by kernel_rfl) (by kernel_rfl) ?_;refine zg ?_
   refine zp hl rfl (spec147 ak K.length K none 0 [] (by omega) (by simp) (hK.move (hl.since 2 rfl)) LsOf.nil) ?_;rintro v Sa hka ⟨av1,rfl,_⟩ hl;refine⟨zt,?_⟩
   refine zp hl rfl (spec147 aw W.length W none 0 [] (by omega) (by simp) (hW.move (hl.since 2 rfl)) LsOf.nil) ?_;rintro v Sb hkb ⟨av2,rfl,_⟩ hl;refine⟨zt,?_⟩
   refine zp hl rfl (spec147 x.aD x.cD x.D none 0 [] (by have:=hxo.d;omega) (by simp) (hxo.o.d.move (hl.since 1 rfl)) LsOf.nil) ?_;rintro v Sc hkc ⟨av3,rfl,_⟩ hl;refine⟨zt,?_⟩
   refine zp hl rfl (spec148 x.aL x.cL x.L hxo.l (hxo.o.l.move (hl.since 1 rfl))) ?_;rintro v Sd hkd ⟨av4,Kd,rfl,_⟩ hl;refine⟨zt,?_⟩
   obtain⟨y,hy⟩:∃y:Rq,y=⟨av1,(K++[]).length,av2,(W++[]).length,av3,(x.D++[]).length,av4,Kd.length⟩:=⟨_,rfl⟩
   have hyc:[Value.slice av1 (K++[]).length (K++[]).length,.slice av2 (W++[]).length (W++[]).length,.slice av3 (x.D++[]).length (x.D++[]).length,.slice av4 Kd.length Kd.length]=y.cells:=by rw[hy];rfl
   refine pr rfl (rd_build rfl rfl (v:=aggL y.cells) (by rw[←hyc];rfl)) ?_;refine rp_buildSliceR hF hl rfl rfl rfl rfl rfl Tryz.underlying127 rfl (c:=y.cells) (by rw[←hyc];kernel_rfl) ?_;intro B101 Se hg101 hr101 hl
   refine rp_appendG hl 0 rfl rfl (by simp) rfl rfl rfl rfl rfl rfl rfl Tryz.underlying127 Tryz.underlying127 rfl rfl (by kernel_rfl) (src_row_ (n:=1) (cap:=1) (new:=y.cells) hr101 rfl) rfl rfl (by kernel_rfl) (by show O.length+1≤maxNeed;unfold maxNeed;omega) ?_;intro v102 Sf hl;refine⟨zt,?_⟩
   obtain⟨ao2,rfl⟩:∃x,v102= .slice x (O.length+1) (O.length+1):=Grow.is_ (hl.gr _ (List.mem_cons_self ..))
   have hl:HoldG S [S9,S',S4,S3,S] Sf _ [gQ ao2 (O++[y])]:=gQ_ok hl
   refine zg ?_
   exact⟨X.length-(j+1),by omega,j+1,ao2,O++[y],by omega,rfl,by rw[len_push];omega,⟨rfl,rfl,rfl,rfl,rfl,by rw[len_push O y];rfl,rfl,rfl,rfl,rfl,rfl,rfl,rfl,trivial⟩,hl.marks (Us:=[S',S4,S3,S]) (fun T hT=>List.mem_cons_of_mem _ hT)⟩
  refine zg ?_
  exact⟨c.toNat-(i+1),by omega,i+1,e,ao,O,by omega,rfl,by omega,⟨rfl,rfl,rfl,rfl,rfl,rfl,rfl,rfl,rfl,trivial⟩,hl.marks (Us:=[S3,S]) (fun T hT=>List.mem_cons_of_mem _ (List.mem_cons_of_mem _ hT))⟩
 refine zg ?_
 constructor<;>intro h103
 ·
  refine zg ?_
  exact blk_ret ((z2 rfl rfl ⟨hl.keep,.inl ⟨_,by decide,rfl⟩⟩))
 have hOn:O.length≤4096:=by have:=of_decide_eq_false h103;omega
 refine zg ?_
 constructor<;>intro h107
 ·
  refine zg ?_
  exact blk_ret ((z2 rfl rfl ⟨hl.keep,.inl ⟨_,by decide,rfl⟩⟩))
 refine zg ?_
 exact y2 rfl rfl ⟨hl.keep,.inr ⟨ao,O.length,rfl,hOn⟩⟩
end Go.Proofs.YtmfphenhpkgidaaGreatDoor
namespace Go.Proofs.YtmfphenhpkgidaaGreatDoor
open Go.Cm Go
set_option maxRecDepth 100000
variable{S:St}
theorem putN_len(C W:List Sg)(f:Nat):∀(n j:Nat) (D:List Sg),(putN C W f n j D).length=D.length
 |0,_,_=>rfl
 |n+1,j,D=>by rw[putN,putN_len C W f n,List.length_set]
theorem expL_len(C:List Sg):∀(l:List (Nat×Nat)) (D:List Sg),(expL C l D).1=0→(expL C l D).2.length=D.length
 | [],_,_=>rfl
 |p::r,D,h=>by
  cases hb:((ligCheck (segm C p.1 p.2)).1 !=0)with
  |true =>
   rw[expL_err hb]at h
   have h':(ligCheck (segm C p.1 p.2)).1=0:=h
   rw[h']at hb
   cases hb
  |false =>
   rw[expL_go hb]at h ⊢
   rw[expL_len C r _ h,putN_len]
theorem expE_len{nl:List UInt8}{C:List Sg}(h:(expE nl C).1=0):(expE nl C).2.length=C.length:=by
 cases hb:((partE nl C).1 !=0)with
 |true =>
  rw[expE_err hb]at h
  have h':(partE nl C).1=0:=h
  rw[h']at hb
  cases hb
 |false =>
  rw[expE_ok hb]at h ⊢
  exact expL_len C _ _ h
noncomputable def cd173:Code:=Tryz.f173.body.getD .skip
theorem scan_bd(C:List Sg):∀(n:Nat) (i f t:Int),0≤i→(f<0∨(0≤f∧f≤t∧t≤i))→((scanN n C i f t).2.1<0∨(0≤(scanN n C i f t).2.1∧(scanN n C i f t).2.1≤(scanN n C i f t).2.2∧(scanN n C i f t).2.2≤i+n))
 |0,i,f,t,hi,h=>by
  show f<0∨(0≤f∧f≤t∧t≤i+((0:Nat):Int))
  omega
 |n+1,i,f,t,hi,h=>by
  have e:i+1+(n:Int)=i+((n+1:Nat):Int):=by omega
  cases h1:(classI (sgI C i).kind==1)with
  |true =>
   rw[scan_1 h1,←e]
   refine scan_bd C n (i+1) _ (i+1) (by omega) (.inr ?_)
   cases hf:decide (f<0)with
   |true =>
    show 0≤i∧i≤i+1∧i+1≤i+1
    omega
   |false =>
    have:=of_decide_eq_false hf
    show 0≤f∧f≤i+1∧i+1≤i+1
    omega
  |false =>
   cases h2:(classI (sgI C i).kind==2)with
   |true =>
    cases h3:decide (f<0)with
    |true =>
     rw[scan_2 h1 h2 h3]
     exact .inl (of_decide_eq_true h3)
    |false =>
     have:=of_decide_eq_false h3
     rw[scan_3 h1 h2 h3,←e]
     exact scan_bd C n (i+1) f (i+1) (by omega) (.inr (by omega))
   |false =>
    rw[scan_4 h1 h2,←e]
    exact scan_bd C n (i+1) f t (by omega) (by omega)
theorem whole_bd(C:List Sg){p q:Nat}(h:p≤q)(a b c d:Int):(wholeE C p q a b c d).2.1<0∨(0≤(wholeE C p q a b c d).2.1∧(wholeE C p q a b c d).2.1≤(wholeE C p q a b c d).2.2∧(wholeE C p q a b c d).2.2≤q):=by
 have:=scan_bd C (q-p) p (-1) 0 (by omega) (.inl (by omega))
 rw[show((p:Nat):Int)+((q-p:Nat):Int)=(q:Int) by omega]at this
 unfold wholeE
 generalize scanN (q-p) C p (-1) 0=W at this ⊢
 cases (W.1 !=0)with
 |true=>exact this
 |false =>
  cases (decide (W.2.1≥0)&&noM a b c d)with
  |true=>exact this
  |false=>exact this
structure Sc where
 f:Int
 t:Int
 a:Int
 b:Int
 c:Int
 d:Int
def Sc.cells(x:Sc):List Value:=secCells x.f x.t x.a x.b x.c x.d
def ScOk(n:Nat)(x:Sc):Prop:=0≤x.f∧x.f≤x.t∧x.t≤n
abbrev Scs:=LsOf 163 8 Sc.cells
abbrev gC(av:Option Addr)(D:List Sc):Gr:=gOf 163 8 Sc.cells (.slice av D.length D.length) D
theorem gC_ok{Ts:List St}{S0 S1:St}{l:List (Nat×Blk)}{av:Option Addr}{D:List Sc}{x:Sc}(h:HoldG S0 Ts S1 l [⟨.slice av (D.length+1) (D.length+1),163,8,(D.map Sc.cells).flatten++x.cells,D.length+1⟩]):HoldG S0 Ts S1 l [gC av (D++[x])]:=by
 unfold gC
 rw[gOf_push]
 exact h
def MadR(S':St)(n:Nat)(v:Value):Prop:=(∃e:Int,e≠0∧v=tupV [.slice none 0 0,.int .i64 e])∨∃av O,v=tupV [.slice av O.length O.length,.int .i64 0]∧Scs S' (.slice av O.length O.length) O∧O.length≤n+1∧∀x,x∈O→ScOk n x
set_option maxHeartbeats 4000000 in
theorem spec173m(nm:ByteArray)(a:Option Addr)(cap:Nat)(C:List Sg)(hn:C.length≤1000)(_:Fresh S)(hv:Sgs S (.slice a C.length cap) C):CC Tryz.prog KK 173 [aggL [.string nm,.slice a C.length cap]] S (fun v S'=>Keep S S'∧(MadR S' C.length v)):=by
 refine cc_enter (c:=cd173) (n:=73) Tryz.func173 rfl rfl rfl (by kernel_rfl) rfl rfl ?_
 have hl:=Hold.start S
 refine zg ?_;refine re_boxL hl rfl rfl rfl rfl rfl rfl ?_
 intro B1 S1 hl
 refine zg ?_;refine re_allocL hl rfl rfl rfl rfl rfl (z:=[.int .i64 0,.int .i64 0,.int .i64 0,.int .i64 0]) (by kernel_rfl) ?_
 intro B5 S5 hl
 refine zA ?_;refine zS ?_;refine xp_seq rfl ?_;refine zS ?_;refine xp_block rfl ?_
 have hl:=hl.addG (g:=gC none []) (.inl ⟨rfl,rfl,rfl⟩)
 refine xe_sub (L':=[(7,.int .i64 0),(6,.int .i64 0),(5,ptrTo B5 0),(4,.slice none 0 0),(3,.int .i64 0),(2,.slice none 0 0),(1,ptrTo B1 0)]) ⟨rfl,rfl,rfl,rfl,rfl,rfl,rfl,trivial⟩ ?_
 refine xp_loop rfl (fun m Le S'=>∃(i p:Nat) (ma mb mc md:Int) (av:Option Addr) (O:List Sc),i≤C.length+1∧m=C.length+1-i∧p≤i∧O.length≤i∧(∀x,x∈O→ScOk C.length x)∧SubE [(7,.int .i64 (i:Int)),(6,.int .i64 (p:Int)),(5,ptrTo B5 0),(4,.slice av O.length O.length),(3,.int .i64 0),(2,.slice none 0 0),(1,ptrTo B1 0)] Le∧HoldG S [S] S' [(B5,.cells [.int .i64 ma,.int .i64 mb,.int .i64 mc,.int .i64 md] 51 false true []),(B1,.cells [.string nm,.slice a C.length cap] 44 false true [])] [gC av O]) ?_ (m:=C.length+1) ⟨0,0,0,0,0,0,none,[],by omega,by omega,by omega,by simp,fun x hx=>(List.not_mem_nil hx).elim,⟨rfl,rfl,rfl,rfl,rfl,rfl,rfl,trivial⟩,hl⟩
 clear hl;rintro m Le S' ⟨i,p,ma,mb,mc,md,av,O,hi,rfl,hpi,hOl,hO,hsub,hl⟩;refine xe_sub hsub ?_
 refine zg ?_
 constructor<;>intro h14
 ·
  have hle:i≤C.length:=by have:=of_decide_eq_true h14;omega
  refine xp_skip rfl ?_;refine xp_seq rfl ?_;refine xp_block rfl ?_;refine xp_seq rfl ?_;refine xp_seq rfl (xe_toW hl 30 Value.bool ?_ rfl ?_)
  ·
   refine zg ?_;refine re_bool (d:=22) rfl (fun h22=>?_) (fun h22=>?_)
   ·
    have hlt:i<C.length:=by have:=of_decide_eq_true h22;omega
    obtain⟨s,hs⟩:=nth_some hlt
    obtain⟨b1,o1,cs1,ha,_,hrow,htk⟩:=hv.elem hs
    refine zg ?_
    refine zc hl rfl (spec141 s) ?_;rintro v S2 hk1 rfl hl
    refine zg ?_
    exact⟨rfl,⟨_,bl rfl⟩,sB,hl⟩
   refine zg ?_
   exact⟨rfl,⟨_,bl rfl⟩,sB,hl⟩
  clear hl;intro q30 S2 hl
  refine zg ?_
  constructor<;>intro h30
  ·
   refine zg ?_
   exact⟨C.length+1-(i+1),by omega,i+1,p,ma,mb,mc,md,av,O,by omega,rfl,by omega,by omega,hO,⟨rfl,rfl,rfl,rfl,rfl,rfl,rfl,trivial⟩,hl⟩
  have hwb:=whole_bd C hpi ma mb mc md
  refine zg ?_
  refine zc hl rfl (spec216 a cap C p i ma mb mc md hn hpi hle (hv.move (hl.since 0 rfl))) ?_;rintro v S3 hk3 rfl hl
  generalize wholeE C p i ma mb mc md=W at hwb ⊢
  obtain⟨x,hx⟩:∃x:Sc,x=⟨W.2.1,W.2.2,ma,mb,mc,md⟩:=⟨_,rfl⟩
  have hxc:secCells W.2.1 W.2.2 ma mb mc md=x.cells:=by rw[hx];rfl
  refine zg ?_;refine re_allocL hl rfl rfl rfl rfl rfl (z:=[.int .i64 0,.int .i64 0,.int .i64 0,.int .i64 0,.int .i64 0,.int .i64 0,.int .i64 0,.int .i64 0]) (by kernel_rfl) ?_
  intro B8 S8 hl
  refine re_storeL hl 0 rfl rfl rfl rfl rfl rfl rfl (by kernel_rfl) (c':=secCells W.2.1 W.2.2 ma mb mc md) rfl ?_
  intro S9 hl
  refine zg ?_
  constructor<;>intro h41
  ·
   refine zg ?_
   exact thn_ret (blk_ret (thn_ret (round_ret (blk_ret ((z2 rfl rfl ⟨hl.keep,.inl ⟨_,by simpa using h41,rfl⟩⟩))))))
  refine xp_skip rfl ?_;refine xp_seq rfl (xe_cut (fun Le S'=>∃(av:Option Addr) (O:List Sc),O.length≤i+1∧(∀x,x∈O→ScOk C.length x)∧SubE [(7,.int .i64 (i:Int)),(6,.int .i64 (p:Int)),(5,ptrTo B5 0),(4,.slice av O.length O.length),(3,.int .i64 0),(2,.slice none 0 0),(1,ptrTo B1 0)] Le∧HoldG S [S] S' [(B8,.cells x.cells 163 false true []),(B5,.cells [.int .i64 ma,.int .i64 mb,.int .i64 mc,.int .i64 md] 51 false true []),(B1,.cells [.string nm,.slice a C.length cap] 44 false true [])] [gC av O]) ?_ ?_)
  ·
   refine zg ?_
   constructor<;>intro h45
   ·
    refine zg ?_;refine re_buildSliceR hl rfl rfl rfl rfl rfl Tryz.underlying159 rfl (c:=secCells W.2.1 W.2.2 ma mb mc md) (by kernel_rfl) ?_;intro B48 Sa hr48 hl
    rw[hxc]at hl hr48
    refine re_appendG hl 0 rfl rfl (by simp) rfl rfl rfl rfl rfl rfl rfl Tryz.underlying159 Tryz.underlying159 rfl rfl (by kernel_rfl) (src_row_ (n:=1) (cap:=1) (new:=x.cells) hr48 rfl) rfl rfl (by kernel_rfl) (by show O.length+1≤maxNeed;unfold maxNeed;omega) ?_;intro v49 Sb hl
    obtain⟨av2,rfl⟩:∃x,v49= .slice x (O.length+1) (O.length+1):=Grow.is_ (hl.gr _ (List.mem_cons_self ..))
    have hl:HoldG S [S] Sb _ [gC av2 (O++[x])]:=gC_ok hl
    refine zg ?_
    refine⟨rfl,av2,O++[x],by rw[len_push];omega,fun z hz=>?_,⟨rfl,rfl,rfl,by rw[len_push O x];rfl,rfl,rfl,rfl,trivial⟩,hl⟩
    rcases List.mem_append.1 hz with h|h
    ·exact hO z h
    rw[List.mem_singleton.1 h,hx]
    have h0:0≤W.2.1:=by have:=of_decide_eq_true h45;omega
    show 0≤W.2.1∧W.2.1≤W.2.2∧W.2.2≤(C.length:Int)
    omega
   rw[hxc]at hl
   refine xp_skip rfl ?_
   exact⟨rfl,av,O,by omega,hO,⟨rfl,rfl,rfl,rfl,rfl,rfl,rfl,trivial⟩,hl⟩
  clear hl hsub hO hOl;rintro Le Sc ⟨av,O,hOl,hO,hsub,hl⟩;refine xe_sub hsub ?_
  have hl:=hl.tail
  refine xp_seq rfl (xe_cut (fun Le S'=>∃(ma mb mc md:Int),SubE [(7,.int .i64 (i:Int)),(6,.int .i64 (p:Int)),(5,ptrTo B5 0),(4,.slice av O.length O.length),(3,.int .i64 0),(2,.slice none 0 0),(1,ptrTo B1 0)] Le∧HoldG S [S] S' [(B5,.cells [.int .i64 ma,.int .i64 mb,.int .i64 mc,.int .i64 md] 51 false true []),(B1,.cells [.string nm,.slice a C.length cap] 44 false true [])] [gC av O]) ?_ ?_)
  ·
   refine xp_seq rfl (xe_toI 63 (fun v S'=>∃B:Bool,v= .bool B∧(B=true→i<C.length)∧HoldG S [S] S' [(B5,.cells [.int .i64 ma,.int .i64 mb,.int .i64 mc,.int .i64 md] 51 false true []),(B1,.cells [.string nm,.slice a C.length cap] 44 false true [])] [gC av O]) ?_ ?_)
   ·
    refine zg ?_;refine re_bool (d:=55) rfl (fun h55=>?_) (fun h55=>?_)
    ·
     have hlt:i<C.length:=by have:=of_decide_eq_true h55;omega
     obtain⟨s,hs⟩:=nth_some hlt
     obtain⟨b1,o1,cs1,ha,_,hrow,htk⟩:=hv.elem hs
     refine zg ?_
     exact⟨rfl,_,bl rfl,sB,_,rfl,fun _=>hlt,hl⟩
    refine zg ?_
    exact⟨rfl,_,bl rfl,sB,_,rfl,nofun,hl⟩
   clear hl;rintro v Sd ⟨B,rfl,hB,hl⟩
   refine zg ?_
   constructor<;>intro h63
   ·
    have hlt:=hB h63
    obtain⟨s,hs⟩:=nth_some hlt
    obtain⟨b1,o1,cs1,ha,_,hrow,htk⟩:=hv.elem hs
    refine zg ?_;refine re_storeL hl 0 rfl rfl rfl rfl rfl rfl rfl (by kernel_rfl) (c':=[.int .i64 s.mx,.int .i64 s.md,.int .i64 s.tm,.int .i64 s.pr]) rfl ?_
    intro Se hl
    refine zg ?_
    exact⟨rfl,s.mx,s.md,s.tm,s.pr,⟨rfl,rfl,rfl,rfl,rfl,rfl,rfl,trivial⟩,hl⟩
   refine zg ?_
   exact⟨rfl,ma,mb,mc,md,⟨rfl,rfl,rfl,rfl,rfl,rfl,rfl,trivial⟩,hl⟩
  clear hl hsub;rintro Le Sd ⟨ma,mb,mc,md,hsub,hl⟩;refine xe_sub hsub ?_
  refine zg ?_
  exact⟨C.length+1-(i+1),by omega,i+1,i+1,ma,mb,mc,md,av,O,by omega,rfl,by omega,hOl,hO,⟨rfl,rfl,rfl,rfl,rfl,rfl,rfl,trivial⟩,hl⟩
 refine zg ?_
 exact y2 rfl rfl ⟨hl.keep,.inr ⟨av,O,rfl,Grow.ls (f:=Sc.cells) (fun _=>rfl) (hl.gr _ (List.mem_cons_self ..)),by omega,hO⟩⟩
end Go.Proofs.YtmfphenhpkgidaaGreatDoor
namespace Go.Proofs.YtmfphenhpkgidaaGreatDoor
open Go.Cm Go
set_option maxRecDepth 100000
variable{S:St}
abbrev gG(av:Option Addr)(D:List Sg):Gr:=gOf 55 17 Sg.cells (.slice av D.length D.length) D
theorem g2a{Ts:List St}{S0 S1:St}{l:List (Nat×Blk)}{gs:List Gr}{av:Option Addr}{D:List Sg}{x:Sg}(h:HoldG S0 Ts S1 l (⟨.slice av (D.length+1) (D.length+1),55,17,(D.map Sg.cells).flatten++x.cells,D.length+1⟩::gs)):HoldG S0 Ts S1 l (gG av (D++[x])::gs):=by
 unfold gG
 rw[gOf_push]
 exact h
theorem g2b{Ts:List St}{S0 S1:St}{l:List (Nat×Blk)}{g:Gr}{av:Option Addr}{D:List Int}{x:Int}(h:HoldG S0 Ts S1 l [g,⟨.slice av (D.length+1) (D.length+1),3,1,(D.map ic).flatten++ic x,D.length+1⟩]):HoldG S0 Ts S1 l [g,gI' av (D++[x])]:=by
 unfold gI'
 rw[gOf_push]
 exact h
noncomputable def cd111:Code:=Tryz.f111.body.getD .skip
set_option maxHeartbeats 4000000 in
theorem spec111(nm:ByteArray)(a:Option Addr)(cap:Nat)(C:List Sg)(x:Sc)(hn:C.length≤1000)(hx:ScOk C.length x)(_:Fresh S)(hv:Sgs S (.slice a C.length cap) C):CC Tryz.prog KK 111 [aggL [.string nm,.slice a C.length cap],aggL x.cells] S (fun v S'=>Keep S S'∧(∃av R aw W,v=tupV [.slice av R.length R.length,.slice aw W.length W.length]∧Sgs S' (.slice av R.length R.length) R∧R.length≤C.length∧Nums S' (.slice aw W.length W.length) W)):=by
 refine cc_enter (c:=cd111) (n:=44) Tryz.func111 rfl rfl rfl (by kernel_rfl) rfl rfl ?_
 have hl:=Hold.start S
 obtain⟨hx0,hx1,hx2⟩:=hx
 obtain⟨f,hf⟩:=Int.eq_ofNat_of_zero_le hx0
 obtain⟨t,ht⟩:=Int.eq_ofNat_of_zero_le (show 0≤x.t by omega)
 refine zg ?_;refine re_boxL hl rfl rfl rfl rfl rfl rfl ?_
 intro B2 S2 hl
 refine re_boxL hl rfl rfl rfl rfl rfl rfl ?_
 intro B3 S3 hl
 have hl:HoldG S [S] S3 [(B3,.cells x.cells 163 false true []),(B2,.cells [.string nm,.slice a C.length cap] 44 false true [])] []:=hl
 refine zA ?_;iterate 2 refine zS ?_
 refine xp_seq rfl ?_;refine zS ?_;refine xp_block rfl ?_
 have hl:=(hl.addG (g:=gI' none []) (.inl ⟨rfl,rfl,rfl⟩)).addG (g:=gG none []) (.inl ⟨rfl,rfl,rfl⟩)
 refine xe_sub (L':=[(8,.int .i64 (f:Int)),(7,.slice none 0 0),(6,.slice none 0 0),(5,.slice none 0 0),(4,.slice none 0 0),(3,ptrTo B3 0),(2,ptrTo B2 0)]) ⟨by rw[←hf];rfl,rfl,rfl,rfl,rfl,rfl,rfl,trivial⟩ ?_
 refine xp_loop rfl (fun m Le S'=>∃(i:Nat) (av:Option Addr) (R:List Sg) (aw:Option Addr) (W:List Int),i≤t∧m=t-i∧R.length≤i∧W.length≤i∧SubE [(8,.int .i64 (i:Int)),(7,.slice aw W.length W.length),(6,.slice av R.length R.length),(5,.slice none 0 0),(4,.slice none 0 0),(3,ptrTo B3 0),(2,ptrTo B2 0)] Le∧HoldG S [S] S' [(B3,.cells x.cells 163 false true []),(B2,.cells [.string nm,.slice a C.length cap] 44 false true [])] [gG av R,gI' aw W]) ?_ (m:=t-f) ⟨f,none,[],none,[],by omega,rfl,by simp,by simp,⟨rfl,rfl,rfl,rfl,rfl,rfl,rfl,trivial⟩,hl⟩
 clear hl;rintro m Le S' ⟨i,av,R,aw,W,hi,rfl,hR,hW,hsub,hl⟩;refine xe_sub hsub ?_
 refine zg ?_
 constructor<;>intro h15
 ·
  have hlt:i<t:=by have:=of_decide_eq_true h15;omega
  obtain⟨s,hs⟩:=nth_some (show i<C.length by omega)
  obtain⟨b1,o1,cs1,ha,_,hrow,htk⟩:=hv.elem hs
  refine zg ?_
  refine zc hl rfl (spec141 s) ?_;rintro v S4 hk1 rfl hl
  refine zA ?_;refine xp_seq rfl (xe_toW hl 29 Value.bool ?_ rfl ?_)
  ·
   refine zg ?_;refine re_bool (d:=26) rfl (fun h26=>?_) (fun h26=>?_)
   ·
    refine zg ?_
    exact⟨rfl,⟨_,bl rfl⟩,sB,hl⟩
   refine zg ?_
   exact⟨rfl,⟨_,bl rfl⟩,sB,hl⟩
  clear hl ha hrow htk;intro q29 S5 hl
  obtain⟨b1,o1,cs1,ha,_,hrow,htk⟩:=hv.elem hs
  refine zg ?_
  constructor<;>intro h29
  ·
   refine zg ?_;refine re_buildSliceR hl rfl rfl rfl rfl rfl Tryz.underlying42 rfl (c:=s.cells) (by kernel_rfl) ?_;intro B36 S6 hr36 hl;refine re_appendG hl 0 rfl rfl (by show List.Nodup [(55:Nat),3];decide) rfl rfl rfl rfl rfl rfl rfl Tryz.underlying42 Tryz.underlying42 rfl rfl (by kernel_rfl) (src_row_ (n:=1) (cap:=1) (new:=s.cells) hr36 rfl) rfl rfl (by kernel_rfl) (by show R.length+1≤maxNeed;unfold maxNeed;omega) ?_;intro v37 S7 hl
   obtain⟨av2,rfl⟩:∃x,v37= .slice x (R.length+1) (R.length+1):=Grow.is_ (hl.gr _ (List.mem_cons_self ..))
   have hl:HoldG S [S] S7 _ [gG av2 (R++[s]),gI' aw W]:=g2a hl
   refine zg ?_;refine re_buildSliceR hl rfl rfl rfl rfl rfl Tryz.underlying38 rfl (c:=ic (i:Int)) (by kernel_rfl) ?_;intro B40 S8 hr40 hl;refine re_appendG hl 1 rfl rfl (by show List.Nodup [(55:Nat),3];decide) rfl rfl rfl rfl rfl rfl rfl Tryz.underlying38 Tryz.underlying38 rfl rfl (by kernel_rfl) (src_row_ (n:=1) (cap:=1) (new:=ic (i:Int)) hr40 rfl) rfl rfl (by kernel_rfl) (by show W.length+1≤maxNeed;unfold maxNeed;omega) ?_;intro v41 S9 hl
   obtain⟨aw2,rfl⟩:∃x,v41= .slice x (W.length+1) (W.length+1):=Grow.is_ (hl.gr _ (List.mem_cons_of_mem _ (List.mem_cons_self ..)))
   have hl:HoldG S [S] S9 _ [gG av2 (R++[s]),gI' aw2 (W++[(i:Int)])]:=g2b hl
   refine zg ?_
   exact⟨t-(i+1),by omega,i+1,av2,R++[s],aw2,W++[(i:Int)],by omega,rfl,by rw[len_push];omega,by rw[len_push];omega,⟨rfl,by rw[len_push W (i:Int)];rfl,by rw[len_push R s];rfl,rfl,rfl,rfl,rfl,trivial⟩,hl⟩
  refine zg ?_
  exact⟨t-(i+1),by omega,i+1,av,R,aw,W,by omega,rfl,by omega,by omega,⟨rfl,rfl,rfl,rfl,rfl,rfl,rfl,trivial⟩,hl⟩
 refine zg ?_
 exact y2 rfl rfl ⟨hl.keep,av,R,aw,W,rfl,Grow.ls (f:=Sg.cells) (fun _=>rfl) (hl.gr _ (List.mem_cons_self ..)),by omega,Grow.ls (f:=ic) (fun _=>rfl) (hl.gr _ (List.mem_cons_of_mem _ (List.mem_cons_self ..)))⟩
def SecR(S':St)(nl:List UInt8)(C:List Sg)(v:Value):Prop:=(∃e:Int,e≠0∧v=tupV [.slice none 0 0,.int .i64 e])∨((expE nl C).1=0∧∃av O,v=tupV [.slice av O.length O.length,.int .i64 0]∧Scs S' (.slice av O.length O.length) O∧O.length≤C.length+1∧∀x,x∈O→ScOk C.length x)
noncomputable def cd138:Code:=Tryz.f138.body.getD .skip
theorem spec138(nm:ByteArray)(a:Option Addr)(cap:Nat)(C:List Sg)(hnm:nm.data.toList.length≤1000)(hn:C.length≤1000)(hF:Fresh S)(hv:Sgs S (.slice a C.length cap) C):CC Tryz.prog KK 138 [aggL [.string nm,.slice a C.length cap]] S (fun v S'=>Keep S S'∧(SecR S' nm.data.toList C v)):=by
 refine cc_enter (c:=cd138) (n:=18) Tryz.func138 rfl rfl rfl (by kernel_rfl) rfl rfl ?_
 have hl:=Hold.start S
 refine zg ?_;refine re_boxL hl rfl rfl rfl rfl rfl rfl ?_
 intro B1 S1 hl
 refine zg ?_
 refine zc hl rfl (spec110 nm a cap C hnm hn (hl.keep.3 hF) (hv.move (hl.since 0 rfl))) ?_;rintro v S2 hk2 ⟨nm2,a2,cap2,rfl,hX⟩ hl
 have hl:=hl.mark
 refine zg ?_;refine re_allocL hl rfl rfl rfl rfl rfl (z:=[.string ⟨#[]⟩,.slice none 0 0]) (by kernel_rfl) ?_
 intro B4 S4 hl
 refine re_storeL hl 0 rfl rfl rfl rfl rfl rfl rfl (by kernel_rfl) (c':=[.string nm2,.slice a2 (expE nm.data.toList C).2.length cap2]) rfl ?_
 intro S5 hl
 have hX:Sgs S5 (.slice a2 (expE nm.data.toList C).2.length cap2) (expE nm.data.toList C).2:=by
  exact hX.move (hl.since 0 rfl)
 refine zg ?_
 constructor<;>intro h12
 ·
  refine zg ?_
  exact z2 rfl rfl ⟨hl.keep,.inl ⟨_,by simpa using h12,rfl⟩⟩
 have h0:(expE nm.data.toList C).1=0:=by simpa using h12
 have hln:=expE_len h0
 have hl:=hl.mark
 refine zg ?_
 refine zc hl rfl (spec173m nm2 a2 cap2 (expE nm.data.toList C).2 (by omega) (hl.keep.3 hF) (hX.move (hl.since 0 rfl))) ?_;rintro v S6 hk6 hR hl
 rcases hR with ⟨e,he,rfl⟩|⟨av,O,rfl,hO,hOl,hOo⟩
 ·
  refine zg ?_
  exact y2 rfl rfl ⟨hl.keep,.inl ⟨e,he,rfl⟩⟩
 refine zg ?_
 exact y2 rfl rfl ⟨hl.keep,.inr ⟨h0,av,O,rfl,hO,by omega,by rw[hln]at hOo;exact hOo⟩⟩
end Go.Proofs.YtmfphenhpkgidaaGreatDoor
namespace Go.Proofs.YtmfphenhpkgidaaGreatDoor
open Go.Cm Go
set_option maxRecDepth 100000
variable{S:St}
noncomputable def cd137:Code:=Tryz.f137.body.getD .skip
theorem spec137(nm:ByteArray)(a:Option Addr)(cap:Nat)(C:List Sg)(hnm:nm.data.toList.length≤1000)(hn:C.length≤1000)(hv:Sgs S (.slice a C.length cap) C):CC Tryz.prog KK 137 [aggL [.string nm,.slice a C.length cap]] S (fun v S'=>Keep S S'∧(∃e i:Int,v=tupV [.int .i64 e,.int .i64 i])):=by
 refine cc_enter (c:=cd137) (n:=50) Tryz.func137 rfl rfl rfl (by kernel_rfl) rfl rfl ?_
 have hl:=Hold.start S
 refine zg ?_;refine re_boxL hl rfl rfl rfl rfl rfl rfl ?_
 intro B1 S1 hl
 refine zg ?_
 refine zc hl rfl (spec49 nm a cap C hnm hn (hv.move (hl.since 0 rfl))) ?_;rintro v S2 hk2 rfl hl
 refine zg ?_
 constructor<;>intro h14
 ·
  refine zg ?_
  exact z2 rfl rfl ⟨hl.keep,_,_,rfl⟩
 refine xp_skip rfl ?_;refine zS ?_;refine xp_seq rfl ?_;refine zS ?_;refine xp_block rfl ?_;refine xe_sub (L':=[(7,.int .i64 0),(6,.int .i64 (-1)),(3,.int .i64 0),(2,.int .i64 0),(1,ptrTo B1 0)]) ⟨rfl,rfl,rfl,rfl,rfl,trivial⟩ ?_
 refine xp_loop rfl (fun m Le S'=>∃(i:Nat) (o:Int),i≤C.length∧m=C.length-i∧SubE [(7,.int .i64 (i:Int)),(6,.int .i64 o),(3,.int .i64 0),(2,.int .i64 0),(1,ptrTo B1 0)] Le∧HoldG S [S] S' [(B1,.cells [.string nm,.slice a C.length cap] 44 false true [])] []) ?_ (m:=C.length) ⟨0, -1,by omega,by omega,⟨rfl,rfl,rfl,rfl,rfl,trivial⟩,hl⟩
 clear hl;rintro m Le S' ⟨i,o,hi,rfl,hsub,hl⟩;refine xe_sub hsub ?_
 refine zg ?_
 constructor<;>intro h21
 ·
  have hlt:i<C.length:=by have:=of_decide_eq_true h21;omega
  obtain⟨s,hs⟩:=nth_some hlt
  obtain⟨b1,o1,cs1,ha,_,hrow,htk⟩:=hv.elem hs
  refine zg ?_
  constructor<;>intro h30
  ·
   refine zg ?_
   constructor<;>intro h33
   ·
    refine zg ?_
    exact thn_ret (blk_ret (blk_ret (thn_ret (round_ret (blk_ret ((z2 rfl rfl ⟨hl.keep,_,_,rfl⟩)))))))
   refine zg ?_
   exact⟨C.length-(i+1),by omega,i+1,(i:Int),by omega,rfl,⟨rfl,rfl,rfl,rfl,rfl,trivial⟩,hl⟩
  refine xp_seq rfl (xe_toW hl 36 Value.bool ?_ rfl ?_)
  ·
   refine zg ?_
   constructor<;>intro h36
   ·
    refine zg ?_
    exact⟨rfl,⟨_,bl rfl⟩,sB,hl⟩
   refine zg ?_
   exact⟨rfl,⟨_,bl rfl⟩,sB,hl⟩
  clear hl;intro q36 S3 hl
  refine zg ?_
  constructor<;>intro h36
  ·
   refine zg ?_
   constructor<;>intro h40
   ·
    refine zg ?_
    exact blk_ret (blk_ret (thn_ret (round_ret (blk_ret ((z2 rfl rfl ⟨hl.keep,_,_,rfl⟩))))))
   refine zg ?_
   exact⟨C.length-(i+1),by omega,i+1,o,by omega,rfl,⟨rfl,rfl,rfl,rfl,rfl,trivial⟩,hl⟩
  refine zg ?_
  constructor<;>intro h42
  ·
   refine zg ?_
   constructor<;>intro h45
   ·
    refine zg ?_
    exact thn_ret (blk_ret (blk_ret (thn_ret (round_ret (blk_ret ((z2 rfl rfl ⟨hl.keep,_,_,rfl⟩)))))))
   refine zg ?_
   exact⟨C.length-(i+1),by omega,i+1, -1,by omega,rfl,⟨rfl,rfl,rfl,rfl,rfl,trivial⟩,hl⟩
  refine zg ?_
  exact⟨C.length-(i+1),by omega,i+1,o,by omega,rfl,⟨rfl,rfl,rfl,rfl,rfl,trivial⟩,hl⟩
 refine zg ?_
 constructor<;>intro h48
 ·
  refine zg ?_
  exact z2 rfl rfl ⟨hl.keep,_,_,rfl⟩
 refine zg ?_
 exact y2 rfl rfl ⟨hl.keep,_,_,rfl⟩
noncomputable def cd109:Code:=Tryz.f109.body.getD .skip
theorem spec109(nm:ByteArray)(a:Option Addr)(cap:Nat)(C:List Sg)(hnm:nm.data.toList.length≤1000)(hn:C.length≤1000)(hF:Fresh S)(hv:Sgs S (.slice a C.length cap) C):CC Tryz.prog KK 109 [aggL [.string nm,.slice a C.length cap]] S (fun v S'=>Keep S S'∧(SecR S' nm.data.toList C v)):=by
 refine cc_enter (c:=cd109) (n:=18) Tryz.func109 rfl rfl rfl (by kernel_rfl) rfl rfl ?_
 have hl:=Hold.start S
 refine zg ?_;refine re_boxL hl rfl rfl rfl rfl rfl rfl ?_
 intro B1 S1 hl
 refine zg ?_
 refine zc hl rfl (spec137 nm a cap C hnm hn (hv.move (hl.since 0 rfl))) ?_;rintro v S2 hk2 ⟨e,i,rfl⟩ hl
 refine zg ?_
 constructor<;>intro h12
 ·
  refine zg ?_
  exact z2 rfl rfl ⟨hl.keep,.inl ⟨_,by simpa using h12,rfl⟩⟩
 refine zg ?_
 refine zc hl rfl (spec138 nm a cap C hnm hn (hl.keep.3 hF) (hv.move (hl.since 0 rfl))) ?_;rintro v S6 hk6 hR hl
 rcases hR with ⟨e,he,rfl⟩|⟨h0,av,O,rfl,hO,hOl,hOo⟩
 ·
  refine zg ?_
  exact y2 rfl rfl ⟨hl.keep,.inl ⟨e,he,rfl⟩⟩
 refine zg ?_
 exact y2 rfl rfl ⟨hl.keep,.inr ⟨h0,av,O,rfl,hO,hOl,hOo⟩⟩
structure Sl where
 a:Option Addr
 n:Nat
def Sl.cells(x:Sl):List Value:=[.slice x.a x.n x.n]
abbrev gL'(av:Option Addr)(D:List Sl):Gr:=gOf 127 1 Sl.cells (.slice av D.length D.length) D
theorem gL_ok{Ts:List St}{S0 S1:St}{l:List (Nat×Blk)}{av:Option Addr}{D:List Sl}{x:Sl}(h:HoldG S0 Ts S1 l [⟨.slice av (D.length+1) (D.length+1),127,1,(D.map Sl.cells).flatten++x.cells,D.length+1⟩]):HoldG S0 Ts S1 l [gL' av (D++[x])]:=by
 unfold gL'
 rw[gOf_push]
 exact h
def LlsR(S':St)(v:Value):Prop:=(∃e:Int,e≠0∧v=tupV [.slice none 0 0,.int .i64 e])∨(∃av O,v=tupV [.slice av O.length O.length,.int .i64 0]∧LsOf 127 1 Sl.cells S' (.slice av O.length O.length) O∧O.length≤1001∧∀x,x∈O→x.n≤4096)
noncomputable def cd86:Code:=Tryz.f86.body.getD .skip
set_option maxHeartbeats 4000000 in
theorem spec86(nm:ByteArray)(a:Option Addr)(cap:Nat)(C:List Sg)(hnm:nm.data.toList.length≤1000)(hn:C.length≤1000)(hF:Fresh S)(hv:Sgs S (.slice a C.length cap) C):CC Tryz.prog KK 86 [aggL [.string nm,.slice a C.length cap]] S (fun v S'=>Keep S S'∧(LlsR S' v)):=by
 refine cc_enter (c:=cd86) (n:=60) Tryz.func86 rfl rfl rfl (by kernel_rfl) rfl rfl ?_
 have hl:=Hold.start S
 refine zg ?_;refine re_boxL hl rfl rfl rfl rfl rfl rfl ?_
 intro B1 S1 hl
 refine zg ?_
 refine zc hl rfl (spec109 nm a cap C hnm hn (hl.keep.3 hF) (hv.move (hl.since 0 rfl))) ?_;rintro v S2 hk2 hR hl
 rcases hR with ⟨e,he,rfl⟩|⟨h0,av,O,rfl,hO,hOl,hOo⟩
 ·
  refine zg ?_
  constructor<;>intro h20
  ·
   refine zg ?_
   exact z2 rfl rfl ⟨hl.keep,.inl ⟨e,he,rfl⟩⟩
  exact absurd (by simpa using h20) he
 have hln:=expE_len h0
 have hl:=hl.mark
 refine zg ?_
 refine zc hl rfl (spec110 nm a cap C hnm hn (hl.keep.3 hF) (hv.move (hl.since 1 rfl))) ?_;rintro v S3 hk3 ⟨nm2,a2,cap2,rfl,hX⟩ hl
 have hX:Sgs S3 (.slice a2 (expE nm.data.toList C).2.length cap2) (expE nm.data.toList C).2:=hX
 have hOo:∀x,x∈O→ScOk (expE nm.data.toList C).2.length x:=by rw[hln];exact hOo
 generalize (expE nm.data.toList C).2=X at hX hln hOo ⊢
 generalize (expE nm.data.toList C).1=e0 at h0 ⊢
 have hl:=hl.mark
 refine zg ?_;refine re_allocL hl rfl rfl rfl rfl rfl (z:=[.string ⟨#[]⟩,.slice none 0 0]) (by kernel_rfl) ?_
 intro B6 S6 hl
 refine re_storeL hl 0 rfl rfl rfl rfl rfl rfl rfl (by kernel_rfl) (c':=[.string nm2,.slice a2 X.length cap2]) rfl ?_
 intro S7 hl
 refine zA ?_;refine zS ?_;refine xp_seq rfl ?_;refine zS ?_;refine xp_block rfl ?_
 have hl:=hl.addG (g:=gL' none []) (.inl ⟨rfl,rfl,rfl⟩)
 refine xe_sub (L':=[(9,.int .i64 0),(8,.slice none 0 0),(6,ptrTo B6 0),(4,.slice av O.length O.length),(3,.int .i64 0),(2,.slice none 0 0)]) ⟨rfl,rfl,rfl,rfl,rfl,rfl,trivial⟩ ?_
 refine xp_loop rfl (fun m Le S'=>∃(i:Nat) (ao:Option Addr) (Y:List Sl),i≤O.length∧m=O.length-i∧Y.length=i∧(∀x,x∈Y→x.n≤4096)∧SubE [(9,.int .i64 (i:Int)),(8,.slice ao Y.length Y.length),(6,ptrTo B6 0),(4,.slice av O.length O.length),(3,.int .i64 0),(2,.slice none 0 0)] Le∧HoldG S [S3,S2,S] S' [(B6,.cells [.string nm2,.slice a2 X.length cap2] 44 false true []),(B1,.cells [.string nm,.slice a C.length cap] 44 false true [])] [gL' ao Y]) ?_ (m:=O.length) ⟨0,none,[],by omega,by omega,rfl,fun x hx=>(List.not_mem_nil hx).elim,⟨rfl,rfl,rfl,rfl,rfl,rfl,trivial⟩,hl⟩
 clear hl;rintro m Le S' ⟨i,ao,Y,hi,rfl,hY,hYo,hsub,hl⟩;refine xe_sub hsub ?_
 refine zg ?_
 constructor<;>intro h30
 ·
  have hlt:i<O.length:=by have:=of_decide_eq_true h30;omega
  obtain⟨x,hx⟩:=nth_some hlt
  have hxo:=hOo x (nth_mem hx)
  have hl:=hl.mark
  obtain⟨b1,o1,cs1,ha,_,hrow,htk⟩:=(hO.move (hl.since 2 rfl)).elem hx
  refine zg ?_;refine xp_draw (idx:=[0,1,2,3,4,5,6,7,8,9,10]) rfl (by kernel_rfl) (by kernel_rfl) ?_;refine zg ?_
  refine zp hl rfl (spec111 nm2 a2 cap2 X x (by omega) hxo (hl.keep.3 hF) (hX.move (hl.since 1 rfl))) ?_;rintro v S8 hk8 ⟨ar,R,aw,W,rfl,hR,hRl,_⟩ hl;refine⟨zt,?_⟩
  have hl:=hl.mark
  clear ha hrow htk
  obtain⟨b1,o1,cs1,ha,_,hrow,htk⟩:=(hO.move (hl.since 3 rfl)).elem hx
  refine zg ?_
  refine zc hl rfl (spec112 x.a x.b x.c x.d ar R.length R (by omega) (hl.keep.3 hF) (hR.move (hl.since 0 rfl))) ?_;rintro v S9 hk9 hA hl
  rcases hA with ⟨e,he,rfl⟩|⟨aA,nA,rfl,hnA⟩
  ·
   refine zg ?_
   constructor<;>intro h53
   ·
    refine zg ?_
    exact thn_ret (blk_ret (thn_ret (round_ret (blk_ret ((z2 rfl rfl ⟨hl.keep,.inl ⟨e,he,rfl⟩⟩))))))
   exact absurd (by simpa using h53) he
  obtain⟨y,hy⟩:∃y:Sl,y=⟨aA,nA⟩:=⟨_,rfl⟩
  have hyc:[Value.slice aA nA nA]=y.cells:=by rw[hy];rfl
  refine zg ?_;refine re_buildSliceR hl rfl rfl rfl rfl rfl Tryz.underlying142 rfl (c:=y.cells) (by rw[←hyc];kernel_rfl) ?_;intro B57 Sa hr57 hl;refine re_appendG hl 0 rfl rfl (by simp) rfl rfl rfl rfl rfl rfl rfl Tryz.underlying142 Tryz.underlying142 rfl rfl (by kernel_rfl) (src_row_ (n:=1) (cap:=1) (new:=y.cells) hr57 rfl) rfl rfl (by kernel_rfl) (by show Y.length+1≤maxNeed;unfold maxNeed;omega) ?_;intro v58 Sb hl
  obtain⟨ao2,rfl⟩:∃x,v58= .slice x (Y.length+1) (Y.length+1):=Grow.is_ (hl.gr _ (List.mem_cons_self ..))
  have hl:HoldG S [S8,S',S3,S2,S] Sb _ [gL' ao2 (Y++[y])]:=gL_ok hl
  refine zg ?_
  refine⟨O.length-(i+1),by omega,i+1,ao2,Y++[y],by omega,rfl,by rw[len_push];omega,fun z hz=>?_,⟨rfl,by rw[len_push Y y];rfl,rfl,rfl,rfl,rfl,trivial⟩,hl.marks (Us:=[S3,S2,S]) (fun T hT=>List.mem_cons_of_mem _ (List.mem_cons_of_mem _ hT))⟩
  rcases List.mem_append.1 hz with h|h
  ·exact hYo z h
  rw[List.mem_singleton.1 h,hy]
  exact hnA
 refine zg ?_
 exact y2 rfl rfl ⟨hl.keep,.inr ⟨ao,Y,rfl,Grow.ls (f:=Sl.cells) (fun _=>rfl) (hl.gr _ (List.mem_cons_self ..)),by omega,hYo⟩⟩
def EchR(S':St)(v:Value):Prop:=(∃e:Int,e≠0∧v=tupV [.slice none 0 0,.int .i64 e])∨(∃av O,v=tupV [.slice av O.length O.length,.int .i64 0]∧Nums S' (.slice av O.length O.length) O∧O.length≤1001∧∀x,x∈O→0≤x∧x≤4096)
noncomputable def cd61:Code:=Tryz.f61.body.getD .skip
theorem spec61(nm:ByteArray)(a:Option Addr)(cap:Nat)(C:List Sg)(hnm:nm.data.toList.length≤1000)(hn:C.length≤1000)(hF:Fresh S)(hv:Sgs S (.slice a C.length cap) C):CC Tryz.prog KK 61 [aggL [.string nm,.slice a C.length cap]] S (fun v S'=>Keep S S'∧(EchR S' v)):=by
 refine cc_enter (c:=cd61) (n:=31) Tryz.func61 rfl rfl rfl (by kernel_rfl) rfl rfl ?_
 have hl:=Hold.start S
 refine zg ?_;refine re_boxL hl rfl rfl rfl rfl rfl rfl ?_
 intro B1 S1 hl
 refine zg ?_
 refine zc hl rfl (spec86 nm a cap C hnm hn (hl.keep.3 hF) (hv.move (hl.since 0 rfl))) ?_;rintro v S2 hk2 hR hl
 rcases hR with ⟨e,he,rfl⟩|⟨av,O,rfl,hO,hOl,hOo⟩
 ·
  refine zg ?_
  constructor<;>intro h14
  ·
   refine zg ?_
   exact z2 rfl rfl ⟨hl.keep,.inl ⟨e,he,rfl⟩⟩
  exact absurd (by simpa using h14) he
 have hl:=hl.mark
 refine zg ?_
 have hl:=hl.addG (g:=gI' none []) (.inl ⟨rfl,rfl,rfl⟩)
 refine xe_sub (L':=[(7,.int .i64 0),(6,.slice none 0 0),(4,.slice av O.length O.length),(3,.int .i64 0),(2,.slice none 0 0)]) ⟨rfl,rfl,rfl,rfl,rfl,trivial⟩ ?_
 refine xp_loop rfl (fun m Le S'=>∃(i:Nat) (ao:Option Addr) (Y:List Int),i≤O.length∧m=O.length-i∧Y.length=i∧(∀x,x∈Y→0≤x∧x≤4096)∧SubE [(7,.int .i64 (i:Int)),(6,.slice ao Y.length Y.length),(4,.slice av O.length O.length),(3,.int .i64 0),(2,.slice none 0 0)] Le∧HoldG S [S2,S] S' [(B1,.cells [.string nm,.slice a C.length cap] 44 false true [])] [gI' ao Y]) ?_ (m:=O.length) ⟨0,none,[],by omega,by omega,rfl,fun x hx=>(List.not_mem_nil hx).elim,⟨rfl,rfl,rfl,rfl,rfl,trivial⟩,hl⟩
 clear hl;rintro m Le S' ⟨i,ao,Y,hi,rfl,hY,hYo,hsub,hl⟩;refine xe_sub hsub ?_
 refine zg ?_
 constructor<;>intro h19
 ·
  have hlt:i<O.length:=by have:=of_decide_eq_true h19;omega
  obtain⟨x,hx⟩:=nth_some hlt
  have hxo:=hOo x (nth_mem hx)
  obtain⟨b1,o1,cs1,ha,_,hrow,htk⟩:=(hO.move (hl.since 0 rfl)).elem hx
  refine zg ?_;refine re_buildSliceR hl rfl rfl rfl rfl rfl Tryz.underlying38 rfl (c:=ic (x.n:Int)) (by kernel_rfl) ?_;intro B28 Sa hr28 hl;refine re_appendG hl 0 rfl rfl (by simp) rfl rfl rfl rfl rfl rfl rfl Tryz.underlying38 Tryz.underlying38 rfl rfl (by kernel_rfl) (src_row_ (n:=1) (cap:=1) hr28 rfl) rfl rfl (by kernel_rfl) (by show Y.length+1≤maxNeed;unfold maxNeed;omega) ?_;intro v29 Sb hl
  obtain⟨ao2,rfl⟩:∃x,v29= .slice x (Y.length+1) (Y.length+1):=Grow.is_ (hl.gr _ (List.mem_cons_self ..))
  have hl:HoldG S [S2,S] Sb _ [gI' ao2 (Y++[(x.n:Int)])]:=gI_ok hl
  refine zg ?_
  refine⟨O.length-(i+1),by omega,i+1,ao2,Y++[(x.n:Int)],by omega,rfl,by rw[len_push];omega,fun z hz=>?_,⟨rfl,by rw[len_push Y (x.n:Int)];rfl,rfl,rfl,rfl,trivial⟩,hl⟩
  rcases List.mem_append.1 hz with h|h
  ·exact hYo z h
  rw[List.mem_singleton.1 h]
  omega
 refine zg ?_
 exact y2 rfl rfl ⟨hl.keep,.inr ⟨ao,Y,rfl,Grow.ls (f:=ic) (fun _=>rfl) (hl.gr _ (List.mem_cons_self ..)),by omega,hYo⟩⟩
noncomputable def cd27:Code:=Tryz.f27.body.getD .skip
theorem spec27(nm:ByteArray)(a:Option Addr)(cap:Nat)(C:List Sg)(hnm:nm.data.toList.length≤1000)(hn:C.length≤1000)(hF:Fresh S)(hv:Sgs S (.slice a C.length cap) C):CC Tryz.prog KK 27 [aggL [.string nm,.slice a C.length cap]] S (fun v S'=>Keep S S'∧(∃c e:Int,v=tupV [.int .i64 c,.int .i64 e])):=by
 refine cc_enter (c:=cd27) (n:=31) Tryz.func27 rfl rfl rfl (by kernel_rfl) rfl rfl ?_
 have hl:=Hold.start S
 refine zg ?_;refine re_boxL hl rfl rfl rfl rfl rfl rfl ?_
 intro B1 S1 hl
 refine zg ?_
 refine zc hl rfl (spec61 nm a cap C hnm hn (hl.keep.3 hF) (hv.move (hl.since 0 rfl))) ?_;rintro v S2 hk2 hR hl
 rcases hR with ⟨e,he,rfl⟩|⟨av,O,rfl,hO,hOl,hOo⟩
 ·
  refine zg ?_
  constructor<;>intro h14
  ·
   refine zg ?_
   exact z2 rfl rfl ⟨hl.keep,_,e,rfl⟩
  exact absurd (by simpa using h14) he
 have hl:=hl.mark
 refine zg ?_;refine xe_sub (L':=[(7,.int .i64 0),(6,.int .i64 1),(4,.slice av O.length O.length),(3,.int .i64 0),(2,.int .i64 0)]) ⟨rfl,rfl,rfl,rfl,rfl,trivial⟩ ?_
 refine xp_loop rfl (fun m Le S'=>∃(i:Nat) (N:Int),i≤O.length∧m=O.length-i∧0≤N∧N≤4096∧SubE [(7,.int .i64 (i:Int)),(6,.int .i64 N),(4,.slice av O.length O.length),(3,.int .i64 0),(2,.int .i64 0)] Le∧HoldG S [S2,S] S' [(B1,.cells [.string nm,.slice a C.length cap] 44 false true [])] []) ?_ (m:=O.length) ⟨0,1,by omega,by omega,by omega,by omega,⟨rfl,rfl,rfl,rfl,rfl,trivial⟩,hl⟩
 clear hl;rintro m Le S' ⟨i,N,hi,rfl,hN0,hN1,hsub,hl⟩;refine xe_sub hsub ?_
 refine zg ?_
 constructor<;>intro h19
 ·
  have hlt:i<O.length:=by have:=of_decide_eq_true h19;omega
  obtain⟨x,hx⟩:=nth_some hlt
  have hxo:=hOo x (nth_mem hx)
  have hmb:=mul_bd hN0 hN1 hxo.1 hxo.2
  obtain⟨b1,o1,cs1,ha,_,hrow,htk⟩:=(hO.move (hl.since 0 rfl)).elem hx
  refine zg ?_
  constructor<;>intro h29
  ·
   refine zg ?_
   exact blk_ret (thn_ret (round_ret (blk_ret ((z2 rfl rfl ⟨hl.keep,_,_,rfl⟩)))))
  have h29:N*x≤4096:=by have:=of_decide_eq_false h29;omega
  refine zg ?_
  exact⟨O.length-(i+1),by omega,i+1,N*x,by omega,rfl,hmb.1,h29,⟨rfl,rfl,rfl,rfl,rfl,trivial⟩,hl⟩
 refine zg ?_
 exact y2 rfl rfl ⟨hl.keep,_,_,rfl⟩
end Go.Proofs.YtmfphenhpkgidaaGreatDoor

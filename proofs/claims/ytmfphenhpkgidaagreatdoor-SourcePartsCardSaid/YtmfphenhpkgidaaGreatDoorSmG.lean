/-
  Sources copied; choices counted; parts compared.
-/
import Derived.Test.YtmfphenhpkgidaaGreatDoorSmF
namespace Go.Proofs.YtmfphenhpkgidaaGreatDoor
open Go.Cm Go
set_option maxRecDepth 100000
variable{S:St}
structure Sp where
 a:Option Addr
 c:Nat
 x:Spt
def Sp.cells(y:Sp):List Value:=[.slice y.a y.x.signs.length y.c,.bool y.x.blank]
abbrev gSp(av:Option Addr)(D:List Sp):Gr:=gOf 49 2 Sp.cells (.slice av D.length D.length) D
theorem gSp_ok{Ts:List St}{S0 S1:St}{l:List (Nat×Blk)}{av:Option Addr}{D:List Sp}{x:Sp}(h:HoldG S0 Ts S1 l [⟨.slice av (D.length+1) (D.length+1),49,2,(D.map Sp.cells).flatten++x.cells,D.length+1⟩]):HoldG S0 Ts S1 l [gSp av (D++[x])]:=by
 unfold gSp
 rw[gOf_push]
 exact h
theorem spots_of{S:St}{v:Value}{D:List Sp}(h:LsOf 49 2 Sp.cells S v D)(ho:∀y,y∈D→Sgs S (.slice y.a y.x.signs.length y.c) y.x.signs):Spots S v (D.map Sp.x):=by
 refine⟨D.map Sp.cells,by rw[List.length_map,List.length_map],h,fun k x hx=>?_⟩
 rw[nth_eq,List.getElem?_map]at hx
 cases hy:D[k]? with
 |none=>rw[hy]at hx;cases hx
 |some y =>
  rw[hy]at hx
  cases hx
  exact⟨y.cells,by rw[nth_eq,List.getElem?_map,hy];rfl,_,rfl,ho y (nth_mem (by rw[nth_eq];exact hy))⟩
noncomputable def cd8:Code:=Tryz.f8.body.getD .skip
set_option maxHeartbeats 4000000 in
theorem spec8(nm:ByteArray)(a:Option Addr)(cap:Nat)(L:List Spt)(hn:L.length≤1000)(hs:∀x,x∈L→x.signs.length≤1000)(hF:Fresh S)(hv:Spots S (.slice a L.length cap) L):CC Tryz.prog KK 8 [aggL [.string nm,.slice a L.length cap]] S (fun v S'=>Keep S S'∧(∃a2,v=aggL [.string nm,.slice a2 L.length L.length]∧Spots S' (.slice a2 L.length L.length) L)):=by
 refine cc_enter (c:=cd8) (n:=35) Tryz.func8 rfl rfl rfl (by kernel_rfl) rfl rfl ?_
 have hl:=Hold.start S
 refine zg ?_;refine re_boxL hl rfl rfl rfl rfl rfl rfl ?_
 intro B1 S1 hl
 refine re_allocL hl rfl rfl rfl rfl rfl (z:=[.string ⟨#[]⟩,.slice none 0 0]) (by kernel_rfl) ?_
 intro B2 S2 hl
 refine zg ?_;refine rr rfl (rd_build rfl rfl (v:=aggL [.string nm,.slice none 0 0]) (by rfl)) ?_;refine re_allocL hl rfl rfl rfl rfl rfl (z:=[.string ⟨#[]⟩,.slice none 0 0]) (by kernel_rfl) ?_
 intro B3 S3 hl
 refine re_storeL hl 0 rfl rfl rfl rfl rfl rfl rfl (by kernel_rfl) (c':=[.string nm,.slice none 0 0]) rfl ?_
 intro S4 hl
 refine zA ?_;refine xp_seq rfl ?_;refine zS ?_;refine xp_block rfl ?_
 have hl:=hl.addG (g:=gSp none []) (.inl ⟨rfl,rfl,rfl⟩)
 refine xe_sub (L':=[(4,.int .i64 0),(3,ptrTo B3 0),(2,ptrTo B2 0),(1,ptrTo B1 0)]) ⟨rfl,rfl,rfl,rfl,trivial⟩ ?_
 refine xp_loop rfl (fun m Le S'=>∃(i:Nat) (av:Option Addr) (D:List Sp),i≤L.length∧m=L.length-i∧D.length=i∧D.map Sp.x=L.take i∧(∀y,y∈D→Sgs S' (.slice y.a y.x.signs.length y.c) y.x.signs)∧SubE [(4,.int .i64 (i:Int)),(3,ptrTo B3 0),(2,ptrTo B2 0),(1,ptrTo B1 0)] Le∧HoldG S [S] S' [(B3,.cells [.string nm,.slice av D.length D.length] 24 false true []),(B2,.cells [.string ⟨#[]⟩,.slice none 0 0] 24 false true []),(B1,.cells [.string nm,.slice a L.length cap] 24 false true [])] [gSp av D]) ?_ (m:=L.length) ⟨0,none,[],by omega,by omega,rfl,rfl,fun x hx=>(List.not_mem_nil hx).elim,⟨rfl,rfl,rfl,rfl,trivial⟩,hl⟩
 clear hl;rintro m Le S' ⟨i,av,D,hi,rfl,hDi,hDx,hDo,hsub,hl⟩;refine xe_sub hsub ?_
 refine zg ?_
 constructor<;>intro h12
 ·
  have hlt:i<L.length:=by have:=of_decide_eq_true h12;omega
  obtain⟨x,hx⟩:=nth_some hlt
  have hxs:=hs x (nth_mem hx)
  have hl:=hl.mark
  obtain⟨b1,o1,cs1,a1,c1,ha,hrow,htk,hsg⟩:=hv.elem hx
  refine zg ?_;refine xp_draw (idx:=[0,1,2,3,4,5,6,7,9,10,11,12,13,14,8,15,16,17,18,19]) rfl (by kernel_rfl) (by kernel_rfl) ?_;refine zg ?_
  refine zp hl rfl (spec24 a1 c1 x.signs hxs (hsg.move (hl.since 1 rfl))) ?_;rintro v S5 hk1 hg hl;refine⟨zt,?_⟩
  have hz:=GrowS.signs hg
  obtain⟨az,rfl⟩:∃az,v= .slice az x.signs.length x.signs.length:=Grow.is_ hg
  have hl:=hl.mark
  obtain⟨y,hy⟩:∃y:Sp,y=⟨az,x.signs.length,x⟩:=⟨_,rfl⟩
  have hyc:[Value.slice az x.signs.length x.signs.length,.bool x.blank]=y.cells:=by rw[hy];rfl
  refine pr rfl (rd_build rfl rfl (v:=aggL y.cells) (by rw[←hyc];rfl)) ?_;refine rp_buildSliceR hF hl rfl rfl rfl rfl rfl Tryz.underlying22 rfl (c:=y.cells) (by rw[←hyc];kernel_rfl) ?_;intro B31 S6 hg31 hr31 hl
  refine rp_appendG hl 0 rfl rfl (by simp) rfl rfl rfl rfl rfl rfl rfl Tryz.underlying22 Tryz.underlying22 rfl rfl (by kernel_rfl) (src_row_ (n:=1) (cap:=1) (new:=y.cells) hr31 rfl) rfl rfl (by kernel_rfl) (by show D.length+1≤maxNeed;unfold maxNeed;omega) ?_;intro v32 S7 hl;refine⟨zt,?_⟩
  obtain⟨av2,rfl⟩:∃x,v32= .slice x (D.length+1) (D.length+1):=Grow.is_ (hl.gr _ (List.mem_cons_self ..))
  have hl:HoldG S [S5,S',S] S7 _ [gSp av2 (D++[y])]:=gSp_ok hl
  refine zg ?_
  refine rp_storeL hl 0 rfl rfl rfl rfl rfl rfl rfl (by kernel_rfl) (c':=[.string nm,.slice av2 (D.length+1) (D.length+1)]) rfl ?_;intro S8 hl;refine⟨zt,?_⟩
  refine zg ?_
  refine⟨L.length-(i+1),by omega,i+1,av2,D++[y],by omega,rfl,by rw[len_push];omega,by rw[take_push hx,List.map_append,hDx,hy];rfl,fun z hz2=>?_,⟨rfl,rfl,rfl,rfl,trivial⟩,by rw[len_push];exact hl.marks (Us:=[S]) (fun T hT=>List.mem_cons_of_mem _ (List.mem_cons_of_mem _ hT))⟩
  rcases List.mem_append.1 hz2 with h|h
  ·exact(hDo z h).move (hl.since 1 rfl)
  rw[List.mem_singleton.1 h,hy]
  exact hz.move (hl.since 0 rfl)
 have hi2:i=L.length:=by have:=of_decide_eq_false h12;omega
 subst hi2
 rw[List.take_length]at hDx
 have hsp:=spots_of (Grow.ls (f:=Sp.cells) (fun _=>rfl) (hl.gr _ (List.mem_cons_self ..))) hDo
 rw[hDx,hDi]at hsp
 rw[hDi]at hl
 have hl:=hl.mark
 refine zg ?_;refine re_storeL hl 1 rfl rfl rfl rfl rfl rfl rfl (by kernel_rfl) (c':=[.string nm,.slice av L.length L.length]) rfl ?_
 intro S9 hl
 refine zg ?_
 exact done_ret (ress_cell rfl (lN (z:=2) (hl.get 1 rfl) rfl) rfl) ⟨hl.keep,av,rfl,hsp.move (hl.since 0 rfl)⟩
def prodG:Int→List Spt→Option Int
 |n,[]=>some n
 |n,x::L=>bif decide (n*sizeF x>4096)then none else prodG (n*sizeF x) L
def choE(nl:List UInt8)(L:List Spt):Int×Int:=bif (checkF nl L).1 !=0 then(0,(checkF nl L).1)else match prodG 1 L with
 |some n=>(n,0)
 |none=>(0,15)
theorem cho_1{nl:List UInt8}{L:List Spt}(h:((checkF nl L).1 !=0)=true):choE nl L=(0,(checkF nl L).1):=by unfold choE;rw[h];rfl
theorem cho_2{nl:List UInt8}{L:List Spt}(h:((checkF nl L).1 !=0)=false)(k:prodG 1 L=none):choE nl L=(0,15):=by unfold choE;rw[h,k];rfl
theorem cho_3{nl:List UInt8}{L:List Spt}{n:Int}(h:((checkF nl L).1 !=0)=false)(k:prodG 1 L=some n):choE nl L=(n,0):=by unfold choE;rw[h,k];rfl
theorem prod_step{L:List Spt}{i:Nat}{x:Spt}{n:Int}(hx:nth L i=some x)(h:decide (n*sizeF x>4096)=false):prodG n (L.drop i)=prodG (n*sizeF x) (L.drop (i+1)):=by
 rw[drop_nth' hx,prodG,h];rfl
theorem prod_no{L:List Spt}{i:Nat}{x:Spt}{n:Int}(hx:nth L i=some x)(h:decide (n*sizeF x>4096)=true):prodG n (L.drop i)=none:=by
 rw[drop_nth' hx,prodG,h];rfl
theorem prod_end{L:List Spt}{i:Nat}{n:Int}(h:L.length≤i):prodG n (L.drop i)=some n:=by
 rw[List.drop_eq_nil_of_le h];rfl
theorem size_bd(x:Spt)(h:x.signs.length≤1000):0≤sizeF x∧sizeF x≤1001:=by
 unfold sizeF
 cases x.blank<;>simp<;>omega
noncomputable def cd11:Code:=Tryz.f11.body.getD .skip
theorem spec11(nm:ByteArray)(a:Option Addr)(cap:Nat)(L:List Spt)(hn:L.length≤1000)(hs:∀x,x∈L→x.signs.length≤1000)(hG:Gl S)(hv:Spots S (.slice a L.length cap) L):CC Tryz.prog KK 11 [aggL [.string nm,.slice a L.length cap]] S (fun v S'=>Keep S S'∧(v=tupV [.int .i64 (choE nm.data.toList L).1,.int .i64 (choE nm.data.toList L).2])):=by
 refine cc_enter (c:=cd11) (n:=32) Tryz.func11 rfl rfl rfl (by kernel_rfl) rfl rfl ?_
 have hl:=Hold.start S
 refine zg ?_;refine re_boxL hl rfl rfl rfl rfl rfl rfl ?_
 intro B1 S1 hl
 refine zg ?_
 refine zc hl rfl (spec9 nm a cap L hn hs (hG.keep hl.keep) (hv.move (hl.since 0 rfl))) ?_;rintro v S2 hk1 rfl hl
 refine zg ?_
 constructor<;>intro h15
 ·
  refine zg ?_
  exact(z2 rfl rfl ⟨hl.keep,by rw[cho_1 h15]⟩)
 refine xp_skip rfl ?_;refine zS ?_;refine xp_seq rfl ?_;refine zS ?_;refine xp_block rfl ?_;refine xe_sub (L':=[(20,.int .i64 0),(19,.int .i64 L.length),(18,.slice a L.length cap),(6,.int .i64 1),(3,.int .i64 0),(2,.int .i64 0)]) ⟨rfl,rfl,rfl,rfl,rfl,rfl,trivial⟩ ?_
 refine xp_loop rfl (fun m Le S'=>∃(i:Nat) (N:Int),i≤L.length∧m=L.length-i∧0≤N∧N≤4096∧prodG N (L.drop i)=prodG 1 L∧SubE [(20,.int .i64 (i:Int)),(19,.int .i64 L.length),(18,.slice a L.length cap),(6,.int .i64 N),(3,.int .i64 0),(2,.int .i64 0)] Le∧HoldG S [S] S' [(B1,.cells [.string nm,.slice a L.length cap] 24 false true [])] []) ?_ (m:=L.length) ⟨0,1,by omega,by omega,by omega,by omega,rfl,⟨rfl,rfl,rfl,rfl,rfl,rfl,trivial⟩,hl⟩
 clear hl;rintro m Le S' ⟨i,N,hi,rfl,hN0,hN1,hpr,hsub,hl⟩;refine xe_sub hsub ?_
 refine zg ?_
 constructor<;>intro h21
 ·
  have hlt:i<L.length:=by have:=of_decide_eq_true h21;omega
  obtain⟨x,hx⟩:=nth_some hlt
  have hxs:=hs x (nth_mem hx)
  have hsb:=size_bd x hxs
  have hmb:=mul_bd hN0 hN1 hsb.1 hsb.2
  obtain⟨b1,o1,cs1,a1,c1,ha,hrow,htk,hsg⟩:=hv.elem hx
  refine zg ?_;refine re_allocL hl rfl rfl rfl rfl rfl (z:=[.slice none 0 0,.bool false]) (by kernel_rfl) ?_
  intro B8 S8 hl
  refine re_storeL hl 0 rfl rfl rfl rfl rfl rfl rfl (by kernel_rfl) (c':=[.slice a1 x.signs.length c1,.bool x.blank]) rfl ?_
  intro S9 hl
  refine zg ?_
  refine zc hl rfl (spec36 a1 x.signs.length c1 x.blank hxs) ?_;rintro v S10 hk1 hv1 hl
  have hv1:v= .int .i64 (sizeF x):=hv1
  subst hv1
  refine zg ?_
  constructor<;>intro h29
  ·
   refine zg ?_
   exact blk_ret (thn_ret (round_ret (blk_ret ((z2 rfl rfl ⟨hl.keep,by rw[cho_2 h15 (by rw[←hpr];exact prod_no hx h29)]⟩)))))
  have h29':N*sizeF x≤4096:=by have:=of_decide_eq_false h29;omega
  refine zg ?_
  exact⟨L.length-(i+1),by omega,i+1,N*sizeF x,by omega,rfl,hmb.1,h29',by rw[←prod_step hx h29];exact hpr,⟨rfl,rfl,rfl,rfl,rfl,rfl,trivial⟩,hl.tail⟩
 refine zg ?_
 exact y2 rfl rfl ⟨hl.keep,by rw[cho_3 h15 (by rw[←hpr];exact prod_end (by have:=of_decide_eq_false h21;omega))]⟩
noncomputable def cd12:Code:=Tryz.f12.body.getD .skip
theorem spec12(nm:ByteArray)(a:Option Addr)(cap:Nat)(L:List Spt)(hnm:nm.data.toList.length≤1000)(hn:L.length≤1000)(hs:∀x,x∈L→x.signs.length≤1000)(hv:Spots S (.slice a L.length cap) L):CC Tryz.prog KK 12 [aggL [.string nm,.slice a L.length cap]] S (fun v S'=>Keep S S'∧(v=tupV [.int .i64 (choE nm.data.toList L).1,.int .i64 (choE nm.data.toList L).2])):=by
 refine cc_enter (c:=cd12) (n:=34) Tryz.func12 rfl rfl rfl (by kernel_rfl) rfl rfl ?_
 have hl:=Hold.start S
 refine zg ?_;refine re_boxL hl rfl rfl rfl rfl rfl rfl ?_
 intro B1 S1 hl
 refine zg ?_
 refine zc hl rfl (spec10 nm a cap L hnm hn hs (hv.move (hl.since 0 rfl))) ?_;rintro v S2 hk1 rfl hl
 refine zg ?_
 constructor<;>intro h15
 ·
  refine zg ?_
  exact(z2 rfl rfl ⟨hl.keep,by rw[cho_1 h15]⟩)
 refine xp_skip rfl ?_;refine zS ?_;refine xp_seq rfl ?_;refine zS ?_;refine xp_block rfl ?_;refine xe_sub (L':=[(7,.int .i64 0),(6,.int .i64 1),(3,.int .i64 0),(2,.int .i64 0),(1,ptrTo B1 0)]) ⟨rfl,rfl,rfl,rfl,rfl,trivial⟩ ?_
 refine xp_loop rfl (fun m Le S'=>∃(i:Nat) (N:Int),i≤L.length∧m=L.length-i∧0≤N∧N≤4096∧prodG N (L.drop i)=prodG 1 L∧SubE [(7,.int .i64 (i:Int)),(6,.int .i64 N),(3,.int .i64 0),(2,.int .i64 0),(1,ptrTo B1 0)] Le∧HoldG S [S] S' [(B1,.cells [.string nm,.slice a L.length cap] 24 false true [])] []) ?_ (m:=L.length) ⟨0,1,by omega,by omega,by omega,by omega,rfl,⟨rfl,rfl,rfl,rfl,rfl,trivial⟩,hl⟩
 clear hl;rintro m Le S' ⟨i,N,hi,rfl,hN0,hN1,hpr,hsub,hl⟩;refine xe_sub hsub ?_
 refine zg ?_
 constructor<;>intro h21
 ·
  have hlt:i<L.length:=by have:=of_decide_eq_true h21;omega
  obtain⟨x,hx⟩:=nth_some hlt
  have hxs:=hs x (nth_mem hx)
  have hsb:=size_bd x hxs
  have hmb:=mul_bd hN0 hN1 hsb.1 hsb.2
  obtain⟨b1,o1,cs1,a1,c1,ha,hrow,htk,hsg⟩:=hv.elem hx
  refine zg ?_
  refine zc hl rfl (spec41 a1 x.signs.length c1 x.blank hxs) ?_;rintro v S10 hk1 hv1 hl
  have hv1:v= .int .i64 (sizeF x):=hv1
  subst hv1
  refine zg ?_
  constructor<;>intro h29
  ·
   refine zg ?_
   exact blk_ret (thn_ret (round_ret (blk_ret ((z2 rfl rfl ⟨hl.keep,by rw[cho_2 h15 (by rw[←hpr];exact prod_no hx h29)]⟩)))))
  have h29':N*sizeF x≤4096:=by have:=of_decide_eq_false h29;omega
  refine zg ?_
  exact⟨L.length-(i+1),by omega,i+1,N*sizeF x,by omega,rfl,hmb.1,h29',by rw[←prod_step hx h29];exact hpr,⟨rfl,rfl,rfl,rfl,rfl,trivial⟩,hl⟩
 refine zg ?_
 exact y2 rfl rfl ⟨hl.keep,by rw[cho_3 h15 (by rw[←hpr];exact prod_end (by have:=of_decide_eq_false h21;omega))]⟩
end Go.Proofs.YtmfphenhpkgidaaGreatDoor
namespace Go.Proofs.YtmfphenhpkgidaaGreatDoor
open Go.Cm Go
set_option maxRecDepth 100000
variable{S:St}
def szN(x:Spt):Nat:=x.signs.length+bif x.blank then 1 else 0
theorem size_nat(x:Spt):sizeF x=(szN x:Int):=by
 unfold sizeF szN
 cases x.blank<;>simp
def dg:List Spt→Nat→List Nat×Nat
 | [],n=>([],n)
 |x::L,n=>(((dg L n).2%szN x)::(dg L n).1,(dg L n).2/szN x)
theorem dg_len:∀(L:List Spt) (n:Nat),(dg L n).1.length=L.length
 | [],_=>rfl
 |x::L,n=>by
  show(dg L n).1.length+1=L.length+1
  rw[dg_len L n]
def pickN(x:Spt)(c:Nat):List Sg:=match nth x.signs c with
 |some s=>[s]
 |none=>[]
def mkZ(Z:List (Spt×Nat)):List Sg:=(Z.map fun p=>pickN p.1 p.2).flatten
def mk(L:List Spt)(cs:List Nat):List Sg:=mkZ (L.zip cs)
theorem mkZ_push{Z:List (Spt×Nat)}{i:Nat}{p:Spt×Nat}(h:nth Z i=some p):mkZ (Z.take (i+1))=mkZ (Z.take i)++pickN p.1 p.2:=by
 unfold mkZ
 rw[take_push h,List.map_append,List.flatten_append]
 simp
theorem zip_nth{L:List Spt}{cs:List Nat}{i:Nat}{x:Spt}{c:Nat}(h:nth L i=some x)(k:nth cs i=some c):nth (L.zip cs) i=some (x,c):=by
 rw[nth_eq]at h k ⊢
 exact List.getElem?_zip_eq_some.2 ⟨h,k⟩
theorem pick_len(x:Spt)(c:Nat):(pickN x c).length≤1:=by
 unfold pickN
 split<;>simp
theorem mkZ_len:∀(Z:List (Spt×Nat)),(mkZ Z).length≤Z.length
 | []=>by simp[mkZ]
 |p::Z=>by
  have h1:=mkZ_len Z
  have h2:=pick_len p.1 p.2
  have e:mkZ (p::Z)=pickN p.1 p.2++mkZ Z:=rfl
  rw[e,List.length_append,List.length_cons]
  omega
theorem mk_len(L:List Spt)(cs:List Nat):(mk L cs).length≤L.length:=by
 have:=mkZ_len (L.zip cs)
 rw[List.length_zip]at this
 unfold mk
 omega
theorem mkZ_mem:∀{Z:List (Spt×Nat)} {s:Sg},s∈mkZ Z→∃p,p∈Z∧s∈p.1.signs
 | [],s,h=>by simp[mkZ]at h
 |p::Z,s,h=>by
  have e:mkZ (p::Z)=pickN p.1 p.2++mkZ Z:=rfl
  rw[e]at h
  rcases List.mem_append.1 h with h|h
  ·refine⟨p,List.mem_cons_self ..,?_⟩
   unfold pickN at h
   split at h
   ·rename_i t ht
    rw[List.mem_singleton.1 h]
    exact nth_mem ht
   cases h
  obtain⟨q,h1,h2⟩:=mkZ_mem h
  exact⟨q,List.mem_cons_of_mem _ h1,h2⟩
theorem mk_mem{L:List Spt}{cs:List Nat}{s:Sg}(h:s∈mk L cs):∃x,x∈L∧s∈x.signs:=by
 obtain⟨p,h1,h2⟩:=mkZ_mem h
 exact⟨p.1,(List.of_mem_zip h1).1,h2⟩
def okP(nl:List UInt8)(C:List Sg):Bool:=(partE nl C).1==0
def stepP(nl:List UInt8)(O:List (List Sg))(p:List Sg):List (List Sg):=bif okP nl p&&!decide (p∈O)then O++[p]else O
def ptsN(nl:List UInt8)(L:List Spt):Nat→List (List Sg)
 |0=>[]
 |i+1=>stepP nl (ptsN nl L i) (mk L (dg L i).1)
def incL:List Spt→List Nat→List Nat×Bool
 |x::L,c::cs=>bif (incL L cs).2 then(bif decide (c+1<szN x)then((c+1)::(incL L cs).1,false)else(0::(incL L cs).1,true))else(c::(incL L cs).1,false)
 |_,_=>([],true)
theorem mod_up{m s:Nat}(hs:0<s)(h:m%s+1<s):(m+1)%s=m%s+1∧(m+1)/s=m/s:=by
 have e:=Nat.div_add_mod m s
 have e2:m+1=s*(m/s)+(m%s+1):=by omega
 constructor
 ·rw[e2,Nat.mul_add_mod]
  exact Nat.mod_eq_of_lt h
 rw[e2,Nat.mul_add_div hs,Nat.div_eq_of_lt h,Nat.add_zero]
theorem mod_over{m s:Nat}(hs:0<s)(h:¬m%s+1<s):(m+1)%s=0∧(m+1)/s=m/s+1:=by
 have e:=Nat.div_add_mod m s
 have hl:=Nat.mod_lt m hs
 have e2:m+1=s*(m/s+1):=by rw[Nat.mul_add,Nat.mul_one];omega
 constructor
 ·rw[e2]
  exact Nat.mul_mod_right ..
 rw[e2]
 exact Nat.mul_div_cancel_left _ hs
theorem dg_up:∀(L:List Spt) (n:Nat),(∀x,x∈L→0<szN x)→incL L (dg L n).1=((dg L (n+1)).1,decide ((dg L (n+1)).2≠(dg L n).2))∧((dg L (n+1)).2=(dg L n).2∨(dg L (n+1)).2=(dg L n).2+1)
 | [],n,_=>by
  refine⟨?_,.inr rfl⟩
  show(([]:List Nat),true)=([],decide (n+1≠n))
  rw[decide_eq_true (by omega)]
 |x::L,n,hp=>by
  obtain⟨h1,h2⟩:=dg_up L n fun y hy=>hp y (List.mem_cons_of_mem _ hy)
  have hs:=hp x (List.mem_cons_self ..)
  have ea:∀k,dg (x::L) k=(((dg L k).2%szN x)::(dg L k).1,(dg L k).2/szN x):=fun _=>rfl
  rw[ea,ea]
  generalize hA:dg L n=A at h1 h2 ⊢
  generalize hB:dg L (n+1)=B at h1 h2 ⊢
  show incL (x::L) ((A.2%szN x)::A.1)=_∧_
  rw[incL,h1]
  rcases h2 with h2|h2
  ·rw[h2,decide_eq_false (by simp)]
   refine⟨?_,.inl rfl⟩
   show((A.2%szN x)::B.1,false)=((A.2%szN x)::B.1,decide (A.2/szN x≠A.2/szN x))
   rw[decide_eq_false (by simp)]
  rw[h2,decide_eq_true (by omega)]
  by_cases hc:A.2%szN x+1<szN x
  ·obtain⟨e1,e2⟩:=mod_up hs hc
   rw[decide_eq_true hc,e1,e2]
   refine⟨?_,.inl rfl⟩
   show(_,false)=(_,decide (A.2/szN x≠A.2/szN x))
   rw[decide_eq_false (by simp)]
  obtain⟨e1,e2⟩:=mod_over hs hc
  rw[decide_eq_false hc,e1,e2]
  refine⟨?_,.inr rfl⟩
  show(_,true)=(_,decide (A.2/szN x+1≠A.2/szN x))
  rw[decide_eq_true (by omega)]
def prN:List Spt→Nat
 | []=>1
 |x::L=>prN L*szN x
theorem dg_left:∀(L:List Spt) (n:Nat),(dg L n).2=n/prN L
 | [],n=>(Nat.div_one n).symm
 |x::L,n=>by
  show(dg L n).2/szN x=n/(prN L*szN x)
  rw[dg_left L n,Nat.div_div_eq_div_mul]
theorem prod_is:∀(L:List Spt) (n m:Int),prodG n L=some m→m=n*(prN L:Int)
 | [],n,m,h=>by
  cases h
  simp[prN]
 |x::L,n,m,h=>by
  rw[prodG]at h
  cases hb:decide (n*sizeF x>4096)with
  |true=>rw[hb]at h;cases h
  |false =>
   rw[hb]at h
   rw[prod_is L _ _ h,size_nat,prN,Int.natCast_mul,Int.mul_assoc,Int.mul_comm (szN x:Int)]
theorem cho_pr{nl:List UInt8}{L:List Spt}(h:(choE nl L).2=0)(h2:((checkF nl L).1 !=0)=false):(choE nl L).1=(prN L:Int):=by
 unfold choE at h ⊢
 rw[h2]at h ⊢
 cases hp:prodG 1 L with
 |none=>rw[hp]at h;cases h
 |some n =>
  rw[hp]at h
  have:=prod_is L 1 n hp
  show n=_
  omega
theorem cho_ok{nl:List UInt8}{L:List Spt}(h:(choE nl L).2=0):((checkF nl L).1 !=0)=false:=by
 cases hb:((checkF nl L).1 !=0)with
 |false=>rfl
 |true =>
  rw[cho_1 hb]at h
  have h:(checkF nl L).1=0:=h
  rw[h]at hb
  cases hb
theorem spots_ok:∀(L:List Spt) (i:Nat),(spotsE L i).1=0→∀x,x∈L→1≤szN x∧szN x≤4
 | [],_,_,x,hx=>(List.not_mem_nil hx).elim
 |y::L,i,h,x,hx=>by
  unfold spotsE at h
  cases hb:szB y with
  |true=>rw[hb]at h;cases h
  |false =>
   rw[hb]at h
   cases hc:(signsE [] y.signs !=0)with
   |true =>
    rw[hc]at h
    have h:signsE [] y.signs=0:=h
    rw[h]at hc
    cases hc
   |false =>
    rw[hc]at h
    rcases List.mem_cons.1 hx with e|hx
    ·subst e
     unfold szB at hb
     rw[size_nat]at hb
     simp only[Bool.or_eq_false_iff,decide_eq_false_iff_not]at hb
     omega
    exact spots_ok L (i+1) h x hx
theorem chk_sizes{nl:List UInt8}{L:List Spt}(h:((checkF nl L).1 !=0)=false):∀x,x∈L→1≤szN x∧szN x≤4:=by
 have h:(checkF nl L).1=0:=by simpa using h
 unfold checkF at h
 cases hb:!nameF nl with
 |true=>rw[hb]at h;cases h
 |false =>
  cases hc:decide ((L.length:Int)>400)with
  |true=>rw[hb,hc]at h;cases h
  |false =>
   rw[hb,hc]at h
   exact spots_ok L 0 h
end Go.Proofs.YtmfphenhpkgidaaGreatDoor
namespace Go.Proofs.YtmfphenhpkgidaaGreatDoor
open Go.Cm Go
set_option maxRecDepth 100000
variable{S:St}
structure Pr where
 a:Option Addr
 c:Nat
 C:List Sg
def Pr.cells(nm:ByteArray)(x:Pr):List Value:=[.string nm,.slice x.a x.C.length x.c]
def Pr.Ok(S:St)(x:Pr):Prop:=Sgs S (.slice x.a x.C.length x.c) x.C
theorem Pr.Ok.move{S T:St}{x:Pr}(h:x.Ok S)(hk:RK S T):x.Ok T:=LsOf.move hk h
abbrev Prs(nm:ByteArray):=LsOf 44 2 (Pr.cells nm)
abbrev gPr(nm:ByteArray)(av:Option Addr)(D:List Pr):Gr:=gOf 44 2 (Pr.cells nm) (.slice av D.length D.length) D
theorem gPr_ok{nm:ByteArray}{Ts:List St}{S0 S1:St}{l:List (Nat×Blk)}{av:Option Addr}{D:List Pr}{x:Pr}(h:HoldG S0 Ts S1 l [⟨.slice av (D.length+1) (D.length+1),44,2,(D.map (Pr.cells nm)).flatten++x.cells nm,D.length+1⟩]):HoldG S0 Ts S1 l [gPr nm av (D++[x])]:=by
 unfold gPr
 rw[gOf_push]
 exact h
theorem nth_ext_{α:Type}{C D:List α}(hl:C.length=D.length)(h:∀i x y,nth C i=some x→nth D i=some y→x=y):C=D:=by
 apply List.ext_getElem hl
 intro i h1 h2
 exact h i _ _ (by rw[nth_eq];exact List.getElem?_eq_getElem h1) (by rw[nth_eq];exact List.getElem?_eq_getElem h2)
noncomputable def cd48:Code:=Tryz.f48.body.getD .skip
set_option maxHeartbeats 4000000 in
theorem spec48(nm:ByteArray)(a b:Option Addr)(ca cb:Nat)(C D:List Sg)(hn:C.length≤1000)(_:Fresh S)(hv:Sgs S (.slice a C.length ca) C)(hw:Sgs S (.slice b D.length cb) D):CC Tryz.prog KK 48 [aggL [.string nm,.slice a C.length ca],aggL [.string nm,.slice b D.length cb]] S (fun v S'=>Keep S S'∧(v= .bool (decide (C=D)))):=by
 refine cc_enter (c:=cd48) (n:=38) Tryz.func48 rfl rfl rfl (by kernel_rfl) rfl rfl ?_
 have hl:=Hold.start S
 refine zg ?_;refine re_boxL hl rfl rfl rfl rfl rfl rfl ?_
 intro B2 S2 hl
 refine re_boxL hl rfl rfl rfl rfl rfl rfl ?_
 intro B3 S3 hl
 refine zA ?_;refine xp_seq rfl ?_;refine xp_seq rfl (xe_toE hl 19 (.bool ((C.length:Int) !=(D.length:Int))) ?_ rfl ?_)
 ·
  refine zg ?_;refine re_bool (d:=11) rfl (fun h11=>?_) (fun h11=>?_)
  ·
   rw[sameBytes_refl]at h11
   cases h11
  refine zg ?_
  exact⟨rfl,bl rfl,sB,hl⟩
 intro S1 hl
 refine zg ?_
 constructor<;>intro h19
 ·
  refine zg ?_
  exact(z1 rfl ⟨hl.keep,by rw[decide_eq_false];intro e;rw[e]at h19;simp at h19⟩)
 have hlen:C.length=D.length:=by
  have h:(C.length:Int)=D.length:=by simpa using h19
  omega
 refine xp_skip rfl ?_;refine xp_seq rfl ?_;refine zS ?_;refine xp_block rfl ?_;refine xe_sub (L':=[(5,.int .i64 0),(4,.bool false),(3,ptrTo B3 0),(2,ptrTo B2 0)]) ⟨rfl,rfl,rfl,rfl,trivial⟩ ?_
 refine xp_loop rfl (fun m Le S'=>∃i:Nat,i≤C.length∧m=C.length-i∧(∀j x y,j<i→nth C j=some x→nth D j=some y→x=y)∧SubE [(5,.int .i64 (i:Int)),(4,.bool false),(3,ptrTo B3 0),(2,ptrTo B2 0)] Le∧HoldG S [S] S' [(B3,.cells [.string nm,.slice b D.length cb] 44 false true []),(B2,.cells [.string nm,.slice a C.length ca] 44 false true [])] []) ?_ (m:=C.length) ⟨0,by omega,by omega,fun j x y h=>absurd h (by omega),⟨rfl,rfl,rfl,rfl,trivial⟩,hl⟩
 clear hl;rintro m Le S' ⟨i,hi,rfl,hpre,hsub,hl⟩;refine xe_sub hsub ?_
 refine zg ?_
 constructor<;>intro h24
 ·
  have hlt:i<C.length:=by have:=of_decide_eq_true h24;omega
  obtain⟨x,hx⟩:=nth_some hlt
  obtain⟨y,hy⟩:=nth_some (show i<D.length by omega)
  obtain⟨b1,o1,cs1,ha,_,hrow,htk⟩:=hv.elem hx
  obtain⟨b2,o2,cs2,ha2,_,hrow2,htk2⟩:=hw.elem hy
  refine zg ?_;refine xp_draw (idx:=[0,1,2,3,4,5,6,7,8,9,10]) rfl (by kernel_rfl) (by kernel_rfl) ?_;refine zg ?_;refine pr rfl (rd_bin rfl rfl rfl (neSign _ _ x y)) ?_;refine zg ?_
  constructor<;>intro h37
  ·
   refine zg ?_
   refine blk_ret (thn_ret (round_ret (blk_ret ((z1 rfl ⟨hl.keep,?_⟩)))))
   rw[decide_eq_false]
   intro e
   subst e
   rw[hx]at hy
   cases hy
   simp at h37
  have hxy:x=y:=by simpa using h37
  refine zg ?_
  refine⟨C.length-(i+1),by omega,i+1,by omega,rfl,fun j u w hj hu hw2=>?_,⟨rfl,rfl,rfl,rfl,trivial⟩,hl⟩
  rcases Nat.lt_or_ge j i with h|h
  ·exact hpre j u w h hu hw2
  obtain rfl:j=i:=by omega
  rw[hx]at hu
  rw[hy]at hw2
  cases hu
  cases hw2
  exact hxy
 refine zg ?_
 exact y1 rfl ⟨hl.keep,by rw[decide_eq_true];exact nth_ext_ hlen fun j x y hx hy=>hpre j x y (by have:=nth_lt hx;have:=of_decide_eq_false h24;omega) hx hy⟩
noncomputable def cd22:Code:=Tryz.f22.body.getD .skip
theorem spec22(nm:ByteArray)(a b:Option Addr)(ca cb:Nat)(C D:List Sg)(hn:C.length≤1000)(hv:Sgs S (.slice a C.length ca) C)(hw:Sgs S (.slice b D.length cb) D):CC Tryz.prog KK 22 [aggL [.string nm,.slice a C.length ca],aggL [.string nm,.slice b D.length cb]] S (fun v S'=>Keep S S'∧(v= .bool (decide (C=D)))):=by
 refine cc_enter (c:=cd22) (n:=17) Tryz.func22 rfl rfl rfl (by kernel_rfl) rfl rfl ?_
 have hl:=Hold.start S
 refine zg ?_;refine re_boxL hl rfl rfl rfl rfl rfl rfl ?_
 intro B2 S2 hl
 refine re_boxL hl rfl rfl rfl rfl rfl rfl ?_
 intro B3 S3 hl
 refine zA ?_;refine xp_seq rfl (xe_cut (fun Le S'=>SubE [(4,.bool (decide (C=D)))] Le∧HoldG S [S] S' [(B3,.cells [.string nm,.slice b D.length cb] 44 false true []),(B2,.cells [.string nm,.slice a C.length ca] 44 false true [])] []) ?_ ?_)
 ·
  refine zg ?_;refine re_bool (d:=10) rfl (fun h10=>?_) (fun h10=>?_)
  ·
   refine zg ?_
   refine zc hl rfl (spec50 a b ca cb C D hn (hv.move (hl.since 0 rfl)) (hw.move (hl.since 0 rfl))) ?_;rintro v S1 hk1 rfl hl
   refine zg ?_
   exact⟨rfl,⟨rfl,trivial⟩,hl⟩
  rw[sameBytes_refl]at h10
  cases h10
 clear hl;rintro Le S' ⟨hsub,hl⟩;refine xe_sub hsub ?_
 refine zg ?_
 exact y1 rfl ⟨hl.keep,rfl⟩
noncomputable def cd15:Code:=Tryz.f15.body.getD .skip
set_option maxHeartbeats 4000000 in
theorem spec15(nm:ByteArray)(a b:Option Addr)(ca cb:Nat)(P Q:List Pr)(hn:P.length≤100000)(hPs:∀x,x∈P→x.C.length≤1000)(hPQ:P.map Pr.C=Q.map Pr.C)(_:Fresh S)(hv:Prs nm S (.slice a P.length ca) P)(hw:Prs nm S (.slice b Q.length cb) Q)(hPo:∀x,x∈P→x.Ok S)(hQo:∀x,x∈Q→x.Ok S):CC Tryz.prog KK 15 [.slice a P.length ca,.slice b Q.length cb] S (fun v S'=>Keep S S'∧(v= .bool true)):=by
 refine cc_enter (c:=cd15) (n:=27) Tryz.func15 rfl rfl rfl (by kernel_rfl) rfl rfl ?_
 have hl:=Hold.start S
 have hlen:P.length=Q.length:=by rw[←List.length_map (f:=Pr.C),hPQ,List.length_map]
 refine zg ?_
 constructor<;>intro h10
 ·
  rw[hlen]at h10
  simp at h10
 refine xp_skip rfl ?_;refine xp_seq rfl ?_;refine zS ?_;refine xp_block rfl ?_;refine xe_sub (L':=[(5,.int .i64 0),(4,.bool false),(0,.slice a P.length ca),(1,.slice b Q.length cb)]) ⟨rfl,rfl,rfl,rfl,trivial⟩ ?_
 refine xp_loop rfl (fun m Le S'=>∃i:Nat,i≤P.length∧m=P.length-i∧SubE [(5,.int .i64 (i:Int)),(4,.bool false),(0,.slice a P.length ca),(1,.slice b Q.length cb)] Le∧HoldG S [S] S' [] []) ?_ (m:=P.length) ⟨0,by omega,by omega,⟨rfl,rfl,rfl,rfl,trivial⟩,hl⟩
 clear hl;rintro m Le S' ⟨i,hi,rfl,hsub,hl⟩;refine xe_sub hsub ?_
 refine zg ?_
 constructor<;>intro h14
 ·
  have hlt:i<P.length:=by have:=of_decide_eq_true h14;omega
  obtain⟨x,hx⟩:=nth_some hlt
  obtain⟨y,hy⟩:=nth_some (show i<Q.length by omega)
  have hxy:x.C=y.C:=by
   have h:=congrArg (fun l=>l[i]?) hPQ
   simp only[List.getElem?_map]at h
   rw[←nth_eq,←nth_eq,hx,hy]at h
   exact Option.some.inj h
  have hxo:=hPo x (nth_mem hx)
  have hyo:=hQo y (nth_mem hy)
  have hxs:=hPs x (nth_mem hx)
  obtain⟨b1,o1,cs1,ha,_,hrow,htk⟩:=hv.elem hx
  obtain⟨b2,o2,cs2,ha2,_,hrow2,htk2⟩:=hw.elem hy
  refine zg ?_;refine xp_draw (idx:=[0,1,2,3,4,5,6,7,8,9]) rfl (by kernel_rfl) (by kernel_rfl) ?_;refine zg ?_
  refine zp hl rfl (spec22 nm x.a y.a x.c y.c x.C y.C hxs (hxo.move (hl.since 0 rfl)) (hyo.move (hl.since 0 rfl))) ?_;rintro v S1 hk1 rfl hl;refine⟨zt,?_⟩
  refine pr rfl (rd_un rfl rfl rfl) ?_;refine zg ?_
  constructor<;>intro h26
  ·
   rw[hxy]at h26
   simp at h26
  refine zg ?_
  exact⟨P.length-(i+1),by omega,i+1,by omega,rfl,⟨rfl,rfl,rfl,rfl,trivial⟩,hl⟩
 refine zg ?_
 exact y1 rfl ⟨hl.keep,rfl⟩
abbrev nc(k:Nat):Int:=(k:Int)
noncomputable def cd47:Code:=Tryz.f47.body.getD .skip
set_option maxHeartbeats 4000000 in
theorem spec47(nm:ByteArray)(a:Option Addr)(cap:Nat)(L:List Spt)(b:Option Addr)(cb:Nat)(cs:List Nat)(hn:L.length≤1000)(hcs:cs.length=L.length)(hs:∀x,x∈L→x.signs.length≤1000)(hF:Fresh S)(hv:Spots S (.slice a L.length cap) L)(hw:Nums S (.slice b (cs.map nc).length cb) (cs.map nc)):CC Tryz.prog KK 47 [aggL [.string nm,.slice a L.length cap],.slice b (cs.map nc).length cb] S (fun v S'=>Keep S S'∧(∃ap cp,v=aggL [.string nm,.slice ap (mk L cs).length cp]∧Sgs S' (.slice ap (mk L cs).length cp) (mk L cs))):=by
 refine cc_enter (c:=cd47) (n:=47) Tryz.func47 rfl rfl rfl (by kernel_rfl) rfl rfl ?_
 have hl:=Hold.start S
 have hzl:(L.zip cs).length=L.length:=by rw[List.length_zip];omega
 have hml:(cs.map nc).length=L.length:=by rw[List.length_map];omega
 refine zg ?_;refine re_boxL hl rfl rfl rfl rfl rfl rfl ?_
 intro B2 S2 hl
 refine re_allocL hl rfl rfl rfl rfl rfl (z:=[.string ⟨#[]⟩,.slice none 0 0]) (by kernel_rfl) ?_
 intro B4 S4 hl
 refine zg ?_;refine rr rfl (rd_build rfl rfl (v:=aggL [.string nm,.slice none 0 0]) (by rfl)) ?_;refine re_allocL hl rfl rfl rfl rfl rfl (z:=[.string ⟨#[]⟩,.slice none 0 0]) (by kernel_rfl) ?_
 intro B5 S5 hl
 refine re_storeL hl 0 rfl rfl rfl rfl rfl rfl rfl (by kernel_rfl) (c':=[.string nm,.slice none 0 0]) rfl ?_
 intro S6 hl
 refine zA ?_;refine xp_seq rfl ?_;refine zS ?_;refine xp_block rfl ?_
 have hl:=hl.addG (g:=gG none []) (.inl ⟨rfl,rfl,rfl⟩)
 refine xe_sub (L':=[(6,.int .i64 0),(5,ptrTo B5 0),(4,ptrTo B4 0),(2,ptrTo B2 0),(1,.slice b (cs.map nc).length cb)]) ⟨rfl,rfl,rfl,rfl,rfl,trivial⟩ ?_
 refine xp_loop rfl (fun m Le S'=>∃(i:Nat) (av:Option Addr) (D:List Sg),i≤L.length∧m=L.length-i∧D.length≤i∧D=mkZ ((L.zip cs).take i)∧SubE [(6,.int .i64 (i:Int)),(5,ptrTo B5 0),(4,ptrTo B4 0),(2,ptrTo B2 0),(1,.slice b (cs.map nc).length cb)] Le∧HoldG S [S] S' [(B5,.cells [.string nm,.slice av D.length D.length] 44 false true []),(B4,.cells [.string ⟨#[]⟩,.slice none 0 0] 44 false true []),(B2,.cells [.string nm,.slice a L.length cap] 24 false true [])] [gG av D]) ?_ (m:=L.length) ⟨0,none,[],by omega,by omega,by simp,rfl,⟨rfl,rfl,rfl,rfl,rfl,trivial⟩,hl⟩
 clear hl;rintro m Le S' ⟨i,av,D,hi,rfl,hDl,hD,hsub,hl⟩;refine xe_sub hsub ?_
 refine zg ?_
 constructor<;>intro h14
 ·
  have hlt:i<L.length:=by have:=of_decide_eq_true h14;omega
  obtain⟨x,hx⟩:=nth_some hlt
  obtain⟨k,hk⟩:=nth_some (show i<cs.length by omega)
  have hxs:=hs x (nth_mem hx)
  have hkm:nth (cs.map nc) i=some (k:Int):=by rw[nth_eq,List.getElem?_map,←nth_eq,hk];rfl
  have hz:=mkZ_push (zip_nth hx hk)
  obtain⟨b1,o1,cs1,a1,c1,ha,hrow,htk,hsg⟩:=hv.elem hx
  obtain⟨b2,o2,cs2,ha2,_,hrow2,htk2⟩:=hw.elem hkm
  refine zg ?_;refine xp_draw (idx:=[0,1,2,3,4,5,6,7,8,9,10,11]) rfl (by kernel_rfl) (by kernel_rfl) ?_;refine zg ?_
  constructor<;>intro h28
  ·
   have hkl:k<x.signs.length:=by have:=of_decide_eq_true h28;omega
   obtain⟨s,hsn⟩:=nth_some hkl
   have hpk:pickN x k= [s]:=by unfold pickN;rw[hsn]
   have hsg:Sgs S (.slice a1 x.signs.length c1) x.signs:=hsg
   obtain⟨b3,o3,cs3,ha3,_,hrow3,htk3⟩:=hsg.elem hsn
   refine xp_draw (idx:=[0,1,2,3,4,5,6,7,8,9,10,11,12,13,14,15,16,17]) rfl (by kernel_rfl) (by kernel_rfl) ?_;refine zg ?_;refine rp_buildSliceR hF hl rfl rfl rfl rfl rfl Tryz.underlying42 rfl (c:=s.cells) (by kernel_rfl) ?_;intro B43 S7 hg43 hr43 hl
   refine rp_appendG hl 0 rfl rfl (by simp) rfl rfl rfl rfl rfl rfl rfl Tryz.underlying42 Tryz.underlying42 rfl rfl (by kernel_rfl) (src_row_ (n:=1) (cap:=1) (new:=s.cells) hr43 rfl) rfl rfl (by kernel_rfl) (by show D.length+1≤maxNeed;unfold maxNeed;omega) ?_;intro v44 S8 hl;refine⟨zt,?_⟩
   obtain⟨av2,rfl⟩:∃x,v44= .slice x (D.length+1) (D.length+1):=Grow.is_ (hl.gr _ (List.mem_cons_self ..))
   have hl:HoldG S [S] S8 _ [gG av2 (D++[s])]:=g2a hl
   refine zg ?_
   refine rp_storeL hl 0 rfl rfl rfl rfl rfl rfl rfl (by kernel_rfl) (c':=[.string nm,.slice av2 (D.length+1) (D.length+1)]) rfl ?_;intro S9 hl;refine⟨zt,?_⟩
   refine zg ?_
   exact⟨L.length-(i+1),by omega,i+1,av2,D++[s],by omega,rfl,by rw[len_push];omega,by rw[hz,hpk,←hD],⟨rfl,rfl,rfl,rfl,rfl,trivial⟩,by rw[len_push];exact hl⟩
  have hpk:pickN x k= []:=by
   unfold pickN
   rw[nth_eq,List.getElem?_eq_none (by have:=of_decide_eq_false h28;omega)]
  refine zg ?_
  exact⟨L.length-(i+1),by omega,i+1,av,D,by omega,rfl,by omega,by rw[hz,hpk,←hD,List.append_nil],⟨rfl,rfl,rfl,rfl,rfl,trivial⟩,hl⟩
 have hi2:i=L.length:=by have:=of_decide_eq_false h14;omega
 subst hi2
 have hD2:D=mk L cs:=by rw[hD,←hzl,List.take_length];rfl
 clear hD
 subst hD2
 have hR:=Grow.ls (f:=Sg.cells) (fun _=>rfl) (hl.gr _ (List.mem_cons_self ..))
 have hl:=hl.mark
 refine zg ?_;refine re_storeL hl 1 rfl rfl rfl rfl rfl rfl rfl (by kernel_rfl) (c':=[.string nm,.slice av (mk L cs).length (mk L cs).length]) rfl ?_
 intro S9 hl
 refine zg ?_
 exact done_ret (ress_cell rfl (lN (z:=2) (hl.get 1 rfl) rfl) rfl) ⟨hl.keep,av,(mk L cs).length,rfl,hR.move (hl.since 0 rfl)⟩
end Go.Proofs.YtmfphenhpkgidaaGreatDoor
namespace Go.Proofs.YtmfphenhpkgidaaGreatDoor
open Go.Cm Go
set_option maxRecDepth 100000
variable{S:St}
theorem prod_le:∀(L:List Spt) (n m:Int),n≤4096→prodG n L=some m→m≤4096
 | [],n,m,hn,h=>by
  cases h
  exact hn
 |x::L,n,m,hn,h=>by
  rw[prodG]at h
  cases hb:decide (n*sizeF x>4096)with
  |true=>rw[hb]at h;cases h
  |false =>
   rw[hb]at h
   exact prod_le L _ m (by have:=of_decide_eq_false hb;omega) h
theorem cho_le{nl:List UInt8}{L:List Spt}(h:(choE nl L).2=0):(choE nl L).1=(prN L:Int)∧prN L≤4096:=by
 have hc:=cho_ok h
 have hp:=cho_pr h hc
 refine⟨hp,?_⟩
 unfold choE at h hp
 rw[hc]at h hp
 cases hq:prodG 1 L with
 |none=>rw[hq]at h;cases h
 |some n =>
  rw[hq]at hp
  have hp:n=(prN L:Int):=hp
  have:=prod_le L 1 n (by omega) hq
  omega
def PtsR(S':St)(nm:ByteArray)(L:List Spt)(v:Value):Prop:=((choE nm.data.toList L).2≠0∧v=tupV [.slice none 0 0,.int .i64 (choE nm.data.toList L).2])∨((choE nm.data.toList L).2=0∧∃av P,v=tupV [.slice av P.length P.length,.int .i64 0]∧Prs nm S' (.slice av P.length P.length) P∧(∀x,x∈P→x.Ok S')∧P.map Pr.C=ptsN nm.data.toList L (prN L)∧P.length≤4096∧∀x,x∈P→x.C.length≤1000)
theorem mem_take_dec{P:List Pr}{k:Nat}{y:Pr}{p:List Sg}(hy:nth P k=some y)(hB:decide (p∈(P.take k).map Pr.C)=false):decide (y.C=p)=decide (p∈(P.take (k+1)).map Pr.C):=by
 rw[take_push hy,List.map_append]
 have h1:=of_decide_eq_false hB
 rw[decide_eq_decide]
 constructor
 ·intro e
  exact List.mem_append.2 (.inr (by rw[←e];exact List.mem_cons_self ..))
 intro e
 rcases List.mem_append.1 e with h|h
 ·exact absurd h h1
 exact(List.mem_singleton.1 h).symm
theorem mem_take_end{P:List Pr}{k:Nat}{p:List Sg}(h:(decide ((k:Int)<(P.length:Int))&&!decide (p∈(P.take k).map Pr.C))=false):decide (p∈(P.take k).map Pr.C)=decide (p∈P.map Pr.C):=by
 rw[decide_eq_decide]
 constructor
 ·intro e
  obtain⟨y,hy,rfl⟩:=List.mem_map.1 e
  exact List.mem_map.2 ⟨y,List.mem_of_mem_take hy,rfl⟩
 intro e
 rw[Bool.and_eq_false_iff]at h
 rcases h with h|h
 ·have:=of_decide_eq_false h
  rw[List.take_of_length_le (by omega)]
  exact e
 simpa using h
noncomputable def cd14:Code:=Tryz.f14.body.getD .skip
set_option maxHeartbeats 4000000 in
theorem spec14(nm:ByteArray)(a:Option Addr)(cap:Nat)(L:List Spt)(hnm:nm.data.toList.length≤1000)(hn:L.length≤1000)(hs:∀x,x∈L→x.signs.length≤1000)(hF:Fresh S)(hv:Spots S (.slice a L.length cap) L):CC Tryz.prog KK 14 [aggL [.string nm,.slice a L.length cap]] S (fun v S'=>Keep S S'∧(PtsR S' nm L v)):=by
 refine cc_enter (c:=cd14) (n:=96) Tryz.func14 rfl rfl rfl (by kernel_rfl) rfl rfl ?_
 have hl:=Hold.start S
 refine zg ?_;refine re_boxL hl rfl rfl rfl rfl rfl rfl ?_
 intro B1 S1 hl
 refine zg ?_
 refine zc hl rfl (spec12 nm a cap L hnm hn hs (hv.move (hl.since 0 rfl))) ?_;rintro v S2 hk1 rfl hl
 refine zg ?_
 constructor<;>intro h22
 ·
  refine zg ?_
  exact z2 rfl rfl ⟨hl.keep,.inl ⟨by simpa using h22,rfl⟩⟩
 have h0:(choE nm.data.toList L).2=0:=by simpa using h22
 obtain⟨hc,hcl⟩:=cho_le h0
 have hsz:=chk_sizes (cho_ok h0)
 rw[hc]
 refine xp_skip rfl ?_;refine zS ?_;refine xp_seq rfl ?_;refine zS ?_;refine xp_block rfl ?_
 have hl:=hl.addG (g:=gPr nm none []) (.inl ⟨rfl,rfl,rfl⟩)
 refine xe_sub (L':=[(7,.int .i64 0),(6,.slice none 0 0),(4,.int .i64 (prN L:Int)),(3,.int .i64 0),(2,.slice none 0 0),(1,ptrTo B1 0)]) ⟨rfl,rfl,rfl,rfl,rfl,rfl,trivial⟩ ?_
 refine xp_loop rfl (fun m Le S'=>∃(i:Nat) (av:Option Addr) (P:List Pr),i≤prN L∧m=prN L-i∧P.length≤i∧P.map Pr.C=ptsN nm.data.toList L i∧(∀x,x∈P→x.Ok S')∧(∀x,x∈P→x.C.length≤1000)∧SubE [(7,.int .i64 (i:Int)),(6,.slice av P.length P.length),(4,.int .i64 (prN L:Int)),(3,.int .i64 0),(2,.slice none 0 0),(1,ptrTo B1 0)] Le∧HoldG S [S] S' [(B1,.cells [.string nm,.slice a L.length cap] 24 false true [])] [gPr nm av P]) ?_ (m:=prN L) ⟨0,none,[],by omega,by omega,by simp,rfl,fun x hx=>(List.not_mem_nil hx).elim,fun x hx=>(List.not_mem_nil hx).elim,⟨rfl,rfl,rfl,rfl,rfl,rfl,trivial⟩,hl⟩
 clear hl;rintro m Le Sx ⟨i,av,P,hi,rfl,hPl,hPm,hPo,hPs,hsub,hl⟩;refine xe_sub hsub ?_
 refine zg ?_
 constructor<;>intro h26
 ·
  have hlt:i<prN L:=by have:=of_decide_eq_true h26;omega
  have hl0:=hl
  have h3:=hl.at_ B1 _ (List.mem_cons_self ..)
  have hd:At Sx B1 (.cells [.string nm,.slice a L.length cap] 24 false true []):=⟨fun g=>(g.2 B1 h3.2.2).trans h3.1⟩
  have hvx:=hv.move (hl.since 0 rfl)
  have hFx:=hl.keep.3 hF
  clear hl
  have hl:=Hold.start Sx
  refine zg ?_;refine re_makeSliceK hl rfl rfl rfl rfl rfl rfl rfl rfl rfl Tryz.underlying38 (z:= .int .i64 0) (by kernel_rfl) (by kernel_rfl) (by unfold maxNeed;omega) ?_;intro B33 S6 hl
  have hO:OwN (.slice (some ⟨B33,0,none⟩) (List.replicate L.length (0:Int)).length (List.replicate L.length (0:Int)).length) (List.replicate L.length 0) [(B33,.cells (replL L.length (cellsL (.int .i64 0))) 3 true true [])]:= .inr ⟨B33,[],rfl,by rw[flat_len (f:=ic) (z:=1) (fun _=>rfl)],by rw[←repl_ic];rfl⟩
  have hl:HoldG Sx [Sx] S6 ([]++([(B33,.cells (replL L.length (cellsL (.int .i64 0))) 3 true true [])]++[])) []:=hl
  generalize [(B33,Blk.cells (replL L.length (cellsL (.int .i64 0))) 3 true true [])]=fW at hO hl
  refine zA ?_;refine xp_seq rfl ?_;refine zS ?_;refine xp_block rfl ?_;refine xe_sub (L':=[(10,.int .i64 ((L.length:Int)-1)),(9,.slice (some ⟨B33,0,none⟩) (List.replicate L.length (0:Int)).length (List.replicate L.length (0:Int)).length),(8,.int .i64 (i:Int)),(7,.int .i64 (i:Int)),(6,.slice av P.length P.length),(4,.int .i64 (prN L:Int)),(3,.int .i64 0),(2,.slice none 0 0),(1,ptrTo B1 0)]) ⟨rfl,by rw[List.length_replicate];rfl,rfl,rfl,rfl,rfl,rfl,rfl,rfl,trivial⟩ ?_
  refine xp_loop rfl (fun m Le S'=>∃(j:Nat) (W:List Int) (fW:List (Nat×Blk)),j≤L.length∧m=j∧W.length=L.length∧W.drop j=(dg (L.drop j) i).1.map nc∧(dg (L.drop j) i).2≤i∧OwN (.slice (some ⟨B33,0,none⟩) W.length W.length) W fW∧SubE [(10,.int .i64 ((j:Int)-1)),(9,.slice (some ⟨B33,0,none⟩) W.length W.length),(8,.int .i64 ((dg (L.drop j) i).2:Int)),(7,.int .i64 (i:Int)),(6,.slice av P.length P.length),(4,.int .i64 (prN L:Int)),(3,.int .i64 0),(2,.slice none 0 0),(1,ptrTo B1 0)] Le∧HoldG Sx [Sx] S' ([]++(fW++[])) []) ?_ (m:=L.length) ⟨L.length,_,fW,by omega,by omega,List.length_replicate,by rw[List.drop_length,List.drop_eq_nil_of_le (by rw[List.length_replicate];omega)];rfl,by rw[List.drop_length];exact Nat.le_refl _,hO,⟨rfl,rfl,by rw[List.drop_length];rfl,rfl,rfl,rfl,rfl,rfl,rfl,trivial⟩,hl⟩
  clear hl hO fW;rintro m Le S' ⟨m,W,fW,hj,rfl,hW,hWd,hdl,hO,hsub2,hl⟩;refine xe_sub hsub2 ?_
  refine zg ?_
  constructor<;>intro h45
  ·
   obtain⟨j,rfl⟩:∃j,m=j+1:=⟨m-1,by have:=of_decide_eq_true h45;omega⟩
   have e1:((j+1:Nat):Int)-1=(j:Int):=by omega
   rw[e1]
   obtain⟨x,hx⟩:=nth_some (show j<L.length by omega)
   have hxs:=hs x (nth_mem hx)
   have hxz:=hsz x (nth_mem hx)
   have hdj:=drop_nth' hx
   generalize hQ:dg (L.drop (j+1)) i=Q at hWd hdl ⊢
   have hdn:dg (L.drop j) i=((Q.2%szN x)::Q.1,Q.2/szN x):=by rw[hdj,dg,hQ]
   have hrb:=rem_bd (a:=(Q.2:Int)) (b:=(szN x:Int)) (by omega) (by omega)
   have hqb:=quo_bd (a:=(Q.2:Int)) (b:=(szN x:Int)) (by omega) (by omega)
   obtain⟨b1,o1,cs1,a1,c1,ha,hrow,htk,hsg⟩:=hvx.elem hx
   refine zg ?_
   refine zc hl rfl (spec41 a1 x.signs.length c1 x.blank hxs) ?_;rintro v S10 hk1 hv1 hl
   have hv1:v= .int .i64 (sizeF x):=hv1
   rw[size_nat]at hv1
   subst hv1
   refine zg ?_
   have e2:0+(j:Int).toNat*1=j:=by omega
   rw[e2]
   obtain⟨bx,S7,f3,e3,hs1,hO3,hl3⟩:=store_W (P:=Tryz.prog) hl hO (by omega) rfl (t:=3) (u:= .int .i64 (((Q.2:Int)).tmod (szN x:Int))) (by kernel_rfl) (setN_set (g:=fun x=>Value.int .i64 x) (((Q.2:Int)).tmod (szN x:Int)) (k:=j) (by omega)) ((flat_len (f:=fun x=>[Value.int .i64 x]) (z:=1) (fun _=>rfl) _).trans ((congrArg (· *1) (set_len ..)).trans (flat_len (f:=ic) (z:=1) (fun _=>rfl) _).symm))
   cases e3
   refine re_store rfl rfl rfl rfl rfl rfl hs1 ?_
   clear hl hs1
   have hl:=hl3
   refine zg ?_
   refine zc hl rfl (spec41 a1 x.signs.length c1 x.blank hxs) ?_;rintro v S11 hk2 hv1 hl
   have hv1:v= .int .i64 (sizeF x):=hv1
   rw[size_nat]at hv1
   subst hv1
   refine zg ?_
   exact⟨j,by omega,j,W.set j (((Q.2:Int)).tmod (szN x:Int)),f3,by omega,rfl,by rw[set_len];exact hW,by
    rw[hdn,List.map_cons,←hWd]
    have hjl:j<(W.set j (((Q.2:Int)).tmod (szN x:Int))).length:=by rw[set_len];omega
    rw[List.drop_eq_getElem_cons hjl,List.getElem_set_self,List.drop_set_of_lt (by omega)]
    rfl,by rw[hdn];exact Nat.le_trans (Nat.div_le_self ..) hdl,by unfold OwN;rw[set_len];exact hO3,⟨rfl,by rw[set_len];rfl,by rw[hdn];rfl,rfl,rfl,rfl,rfl,rfl,rfl,trivial⟩,hl⟩
  have hm0:m=0:=by have:=of_decide_eq_false h45;omega
  subst hm0
  rw[List.drop_zero,List.drop_zero]at hWd
  subst hWd
  have hWn:=OW.at_ (f:=ic) (fun _=>rfl) hO hl mem_mid
  have hPo:=fun x hx=>(hPo x hx).move (hl.since 0 rfl)
  have hl:=hl0.call hl.keep
  clear hO hj hsub2 hd hl0 hsub hdl
  have hcl2:=dg_len L i
  refine zg ?_
  refine zc hl rfl (spec47 nm a cap L _ _ (dg L i).1 hn hcl2 hs (hl.keep.3 hF) (hv.move (hl.since 0 rfl)) hWn) ?_;rintro v S5 hk5 ⟨ap,cp,rfl,hR⟩ hl
  have hPo:=fun x hx=>(hPo x hx).move (Keep.rk hk5)
  have hpl:=mk_len L (dg L i).1
  obtain⟨p,hp⟩:∃p,mk L (dg L i).1=p:=⟨_,rfl⟩
  rw[hp]at hR hpl ⊢
  have hl:=hl.mark
  refine re_allocL hl rfl rfl rfl rfl rfl (z:=[.string ⟨#[]⟩,.slice none 0 0]) (by kernel_rfl) ?_
  intro B11 S11 hl
  refine re_storeL hl 0 rfl rfl rfl rfl rfl rfl rfl (by kernel_rfl) (c':=[.string nm,.slice ap p.length cp]) rfl ?_
  intro S12 hl
  refine zA ?_;refine zS ?_;refine xp_seq rfl ?_;refine zS ?_;refine xp_block rfl ?_;refine xe_sub (L':=[(13,.int .i64 0),(12,.bool false),(11,ptrTo B11 0),(7,.int .i64 (i:Int)),(6,.slice av P.length P.length),(4,.int .i64 (prN L:Int)),(3,.int .i64 0),(2,.slice none 0 0),(1,ptrTo B1 0)]) ⟨rfl,rfl,rfl,rfl,rfl,rfl,rfl,rfl,rfl,trivial⟩ ?_
  refine xp_loop rfl (fun m Le S'=>∃(k:Nat),k≤P.length∧m=P.length-k∧SubE [(13,.int .i64 (k:Int)),(12,.bool (decide (p∈(P.take k).map Pr.C))),(11,ptrTo B11 0),(7,.int .i64 (i:Int)),(6,.slice av P.length P.length),(4,.int .i64 (prN L:Int)),(3,.int .i64 0),(2,.slice none 0 0),(1,ptrTo B1 0)] Le∧HoldG S [S5,S] S' [(B11,.cells [.string nm,.slice ap p.length cp] 44 false true []),(B1,.cells [.string nm,.slice a L.length cap] 24 false true [])] [gPr nm av P]) ?_ (m:=P.length) ⟨0,by omega,by omega,⟨rfl,by rw[List.take_zero];rfl,rfl,rfl,rfl,rfl,rfl,rfl,rfl,trivial⟩,hl⟩
  clear hl;rintro m Le S' ⟨k,hk,rfl,hsub,hl⟩;refine xe_sub hsub ?_
  refine xp_seq rfl ?_;refine xp_seq rfl (xe_toE hl 71 (.bool (decide ((k:Int)<(P.length:Int))&&!decide (p∈(P.take k).map Pr.C))) ?_ rfl ?_)
  ·
   refine zg ?_;refine re_bool (d:=68) rfl (fun h68=>?_) (fun h68=>?_)
   ·
    refine zg ?_;refine rr rfl (rd_un rfl rfl rfl) ?_;refine zg ?_
    exact⟨rfl,bl (by rw[h68];rfl),sB,hl⟩
   refine zg ?_
   exact⟨rfl,bl (by rw[h68];rfl),sB,hl⟩
  clear hl;intro S7 hl
  refine zg ?_
  constructor<;>intro h71
  ·
   have h71':=h71
   rw[Bool.and_eq_true]at h71'
   have hlt2:k<P.length:=by have:=of_decide_eq_true h71'.1;omega
   have hB:decide (p∈(P.take k).map Pr.C)=false:=by simpa using h71'.2
   obtain⟨y,hy⟩:=nth_some hlt2
   have hyo:=hPo y (nth_mem hy)
   have hys:=hPs y (nth_mem hy)
   have hl:=hl.mark
   obtain⟨b1,o1,cs1,ha,_,hrow,htk⟩:=(Grow.ls (f:=Pr.cells nm) (fun _=>rfl) (hl.gr _ (List.mem_cons_self ..))).elem hy
   refine zg ?_;refine xp_draw (idx:=[0,1,2,3,4,5,6]) rfl (by kernel_rfl) (by kernel_rfl) ?_;refine zg ?_
   refine zp hl rfl (spec48 nm y.a ap y.c cp y.C p hys (hl.keep.3 hF) (hyo.move (hl.since 1 rfl)) (hR.move (hl.since 1 rfl))) ?_;rintro v S8 hk8 rfl hl;refine⟨zt,?_⟩
   refine zg ?_
   exact⟨P.length-(k+1),by omega,k+1,by omega,rfl,⟨rfl,by rw[mem_take_dec hy hB];rfl,rfl,rfl,rfl,rfl,rfl,rfl,rfl,trivial⟩,hl.marks (Us:=[S5,S]) (fun T hT=>List.mem_cons_of_mem _ hT)⟩
  rw[mem_take_end h71]
  have hl:=hl.mark
  refine zg ?_
  refine zc hl rfl (spec49 nm ap cp p hnm (by omega) (hR.move (hl.since 1 rfl))) ?_;rintro v S8 hk8 rfl hl
  refine zA ?_;refine xp_seq rfl (xe_toE hl 90 (.bool (okP nm.data.toList p&&!decide (p∈P.map Pr.C))) ?_ rfl ?_)
  ·
   refine zg ?_;refine re_bool (d:=87) rfl (fun h87=>?_) (fun h87=>?_)
   ·
    refine zg ?_;refine rr rfl (rd_un rfl rfl rfl) ?_;refine zg ?_
    exact⟨rfl,bl (by unfold okP;rw[h87];rfl),sB,hl⟩
   refine zg ?_
   exact⟨rfl,bl (by unfold okP;rw[h87];rfl),sB,hl⟩
  clear hl;intro S9 hl
  have hst:ptsN nm.data.toList L (i+1)=stepP nm.data.toList (P.map Pr.C) p:=by rw[hPm,←hp];rfl
  refine zg ?_
  constructor<;>intro h90
  ·
   obtain⟨y,hy⟩:∃y:Pr,y=⟨ap,cp,p⟩:=⟨_,rfl⟩
   have hyc:[Value.string nm,.slice ap p.length cp]=y.cells nm:=by rw[hy];rfl
   refine zg ?_;refine re_buildSliceR hl rfl rfl rfl rfl rfl Tryz.underlying33 rfl (c:=y.cells nm) (by rw[←hyc];kernel_rfl) ?_;intro B93 Sa hr93 hl;refine re_appendG hl 0 rfl rfl (by simp) rfl rfl rfl rfl rfl rfl rfl Tryz.underlying33 Tryz.underlying33 rfl rfl (by kernel_rfl) (src_row_ (n:=1) (cap:=1) (new:=y.cells nm) hr93 rfl) rfl rfl (by kernel_rfl) (by show P.length+1≤maxNeed;unfold maxNeed;omega) ?_;intro v94 Sb hl
   obtain⟨av2,rfl⟩:∃x,v94= .slice x (P.length+1) (P.length+1):=Grow.is_ (hl.gr _ (List.mem_cons_self ..))
   have hl:HoldG S [S7,S5,S] Sb _ [gPr nm av2 (P++[y])]:=gPr_ok hl
   refine zg ?_
   refine⟨prN L-(i+1),by omega,i+1,av2,P++[y],by omega,rfl,by rw[len_push];omega,by rw[hst,List.map_append,stepP,h90,hy];rfl,fun z hz=>?_,fun z hz=>?_,⟨rfl,by rw[len_push P y];rfl,rfl,rfl,rfl,rfl,trivial⟩,(hl.marks (Us:=[S]) (fun T hT=>List.mem_cons_of_mem _ (List.mem_cons_of_mem _ hT))).tail⟩
   ·rcases List.mem_append.1 hz with h|h
    ·exact(hPo z h).move (hl.since 1 rfl)
    rw[List.mem_singleton.1 h,hy]
    exact LsOf.move (hl.since 1 rfl) hR
   rcases List.mem_append.1 hz with h|h
   ·exact hPs z h
   rw[List.mem_singleton.1 h,hy]
   show p.length≤1000
   omega
  refine zg ?_
  exact⟨prN L-(i+1),by omega,i+1,av,P,by omega,rfl,by omega,by rw[hst,stepP,h90];rfl,fun z hz=>(hPo z hz).move (hl.since 1 rfl),hPs,⟨rfl,rfl,rfl,rfl,rfl,rfl,trivial⟩,(hl.marks (Us:=[S]) (fun T hT=>List.mem_cons_of_mem _ (List.mem_cons_of_mem _ hT))).tail⟩
 have hi2:i=prN L:=by have:=of_decide_eq_false h26;omega
 subst hi2
 refine zg ?_
 exact y2 rfl rfl ⟨hl.keep,.inr ⟨h0,av,P,rfl,Grow.ls (f:=Pr.cells nm) (fun _=>rfl) (hl.gr _ (List.mem_cons_self ..)),hPo,hPm,by omega,hPs⟩⟩
end Go.Proofs.YtmfphenhpkgidaaGreatDoor
namespace Go.Proofs.YtmfphenhpkgidaaGreatDoor
open Go.Cm Go
set_option maxRecDepth 100000
variable{S:St}
noncomputable def cd42:Code:=Tryz.f42.body.getD .skip
set_option maxHeartbeats 4000000 in
theorem spec42(nm:ByteArray)(a:Option Addr)(cap:Nat)(L:List Spt)(b:Option Addr)(cb:Nat)(cs:List Nat)(hn:L.length≤1000)(hcs:cs.length=L.length)(hs:∀x,x∈L→x.signs.length≤1000)(hF:Fresh S)(hv:Spots S (.slice a L.length cap) L)(hw:Nums S (.slice b (cs.map nc).length cb) (cs.map nc)):CC Tryz.prog KK 42 [aggL [.string nm,.slice a L.length cap],.slice b (cs.map nc).length cb] S (fun v S'=>Keep S S'∧(∃ap cp,v=aggL [.string nm,.slice ap (mk L cs).length cp]∧Sgs S' (.slice ap (mk L cs).length cp) (mk L cs))):=by
 refine cc_enter (c:=cd42) (n:=43) Tryz.func42 rfl rfl rfl (by kernel_rfl) rfl rfl ?_
 have hl:=Hold.start S
 have hzl:(L.zip cs).length=L.length:=by rw[List.length_zip];omega
 have hml:(cs.map nc).length=L.length:=by rw[List.length_map];omega
 refine zg ?_;refine re_boxL hl rfl rfl rfl rfl rfl rfl ?_
 intro B2 S2 hl
 refine re_allocL hl rfl rfl rfl rfl rfl (z:=[.string ⟨#[]⟩,.slice none 0 0]) (by kernel_rfl) ?_
 intro B4 S4 hl
 refine zg ?_;refine rr rfl (rd_build rfl rfl (v:=aggL [.string nm,.slice none 0 0]) (by rfl)) ?_;refine re_allocL hl rfl rfl rfl rfl rfl (z:=[.string ⟨#[]⟩,.slice none 0 0]) (by kernel_rfl) ?_
 intro B5 S5 hl
 refine re_storeL hl 0 rfl rfl rfl rfl rfl rfl rfl (by kernel_rfl) (c':=[.string nm,.slice none 0 0]) rfl ?_
 intro S6 hl
 refine zA ?_;refine xp_seq rfl ?_;refine zS ?_;refine xp_block rfl ?_
 have hl:=hl.addG (g:=gG none []) (.inl ⟨rfl,rfl,rfl⟩)
 refine xe_sub (L':=[(13,.int .i64 0),(12,.int .i64 (cs.map nc).length),(11,.slice b (cs.map nc).length cb),(5,ptrTo B5 0),(4,ptrTo B4 0),(2,ptrTo B2 0)]) ⟨rfl,rfl,rfl,rfl,rfl,rfl,trivial⟩ ?_
 refine xp_loop rfl (fun m Le S'=>∃(i:Nat) (av:Option Addr) (D:List Sg),i≤L.length∧m=L.length-i∧D.length≤i∧D=mkZ ((L.zip cs).take i)∧SubE [(13,.int .i64 (i:Int)),(12,.int .i64 (cs.map nc).length),(11,.slice b (cs.map nc).length cb),(5,ptrTo B5 0),(4,ptrTo B4 0),(2,ptrTo B2 0)] Le∧HoldG S [S] S' [(B5,.cells [.string nm,.slice av D.length D.length] 44 false true []),(B4,.cells [.string ⟨#[]⟩,.slice none 0 0] 44 false true []),(B2,.cells [.string nm,.slice a L.length cap] 24 false true [])] [gG av D]) ?_ (m:=L.length) ⟨0,none,[],by omega,by omega,by simp,rfl,⟨rfl,rfl,rfl,rfl,rfl,rfl,trivial⟩,hl⟩
 clear hl;rintro m Le S' ⟨i,av,D,hi,rfl,hDl,hD,hsub,hl⟩;refine xe_sub hsub ?_
 refine zg ?_
 constructor<;>intro h14
 ·
  have hlt:i<L.length:=by have:=of_decide_eq_true h14;omega
  obtain⟨x,hx⟩:=nth_some hlt
  obtain⟨k,hk⟩:=nth_some (show i<cs.length by omega)
  have hxs:=hs x (nth_mem hx)
  have hkm:nth (cs.map nc) i=some (k:Int):=by rw[nth_eq,List.getElem?_map,←nth_eq,hk];rfl
  have hz:=mkZ_push (zip_nth hx hk)
  obtain⟨b1,o1,cs1,a1,c1,ha,hrow,htk,hsg⟩:=hv.elem hx
  obtain⟨b2,o2,cs2,ha2,_,hrow2,htk2⟩:=hw.elem hkm
  refine zg ?_
  constructor<;>intro h28
  ·
   have hkl:k<x.signs.length:=by have:=of_decide_eq_true h28;omega
   obtain⟨s,hsn⟩:=nth_some hkl
   have hpk:pickN x k= [s]:=by unfold pickN;rw[hsn]
   have hsg:Sgs S (.slice a1 x.signs.length c1) x.signs:=hsg
   obtain⟨b3,o3,cs3,ha3,_,hrow3,htk3⟩:=hsg.elem hsn
   refine xp_draw (idx:=[0,1,2,3,4,5,6,7,8,9,10,11,12,13,14]) rfl (by kernel_rfl) (by kernel_rfl) ?_;refine zg ?_;refine rp_buildSliceR hF hl rfl rfl rfl rfl rfl Tryz.underlying42 rfl (c:=s.cells) (by kernel_rfl) ?_;intro B43 S7 hg43 hr43 hl
   refine rp_appendG hl 0 rfl rfl (by simp) rfl rfl rfl rfl rfl rfl rfl Tryz.underlying42 Tryz.underlying42 rfl rfl (by kernel_rfl) (src_row_ (n:=1) (cap:=1) (new:=s.cells) hr43 rfl) rfl rfl (by kernel_rfl) (by show D.length+1≤maxNeed;unfold maxNeed;omega) ?_;intro v44 S8 hl;refine⟨zt,?_⟩
   obtain⟨av2,rfl⟩:∃x,v44= .slice x (D.length+1) (D.length+1):=Grow.is_ (hl.gr _ (List.mem_cons_self ..))
   have hl:HoldG S [S] S8 _ [gG av2 (D++[s])]:=g2a hl
   refine zg ?_
   refine rp_storeL hl 0 rfl rfl rfl rfl rfl rfl rfl (by kernel_rfl) (c':=[.string nm,.slice av2 (D.length+1) (D.length+1)]) rfl ?_;intro S9 hl;refine⟨zt,?_⟩
   refine zg ?_
   exact⟨L.length-(i+1),by omega,i+1,av2,D++[s],by omega,rfl,by rw[len_push];omega,by rw[hz,hpk,←hD],⟨rfl,rfl,rfl,rfl,rfl,rfl,trivial⟩,by rw[len_push];exact hl⟩
  have hpk:pickN x k= []:=by
   unfold pickN
   rw[nth_eq,List.getElem?_eq_none (by have:=of_decide_eq_false h28;omega)]
  refine zg ?_
  exact⟨L.length-(i+1),by omega,i+1,av,D,by omega,rfl,by omega,by rw[hz,hpk,←hD,List.append_nil],⟨rfl,rfl,rfl,rfl,rfl,rfl,trivial⟩,hl⟩
 have hi2:i=L.length:=by have:=of_decide_eq_false h14;omega
 subst hi2
 have hD2:D=mk L cs:=by rw[hD,←hzl,List.take_length];rfl
 clear hD
 subst hD2
 have hR:=Grow.ls (f:=Sg.cells) (fun _=>rfl) (hl.gr _ (List.mem_cons_self ..))
 have hl:=hl.mark
 refine zg ?_;refine re_storeL hl 1 rfl rfl rfl rfl rfl rfl rfl (by kernel_rfl) (c':=[.string nm,.slice av (mk L cs).length (mk L cs).length]) rfl ?_
 intro S9 hl
 refine zg ?_
 exact done_ret (ress_cell rfl (lN (z:=2) (hl.get 1 rfl) rfl) rfl) ⟨hl.keep,av,(mk L cs).length,rfl,hR.move (hl.since 0 rfl)⟩
end Go.Proofs.YtmfphenhpkgidaaGreatDoor
namespace Go.Proofs.YtmfphenhpkgidaaGreatDoor
open Go.Cm Go
set_option maxRecDepth 100000
variable{S:St}
theorem no_esc(x:Value)(S:St):CC Tryz.prog KK 92 [x] S (fun v S'=>Keep S S'∧v=x):=by
 have h:KK.ext 92 [x] S=some (x,S):=rfl
 refine⟨0,x,S,?_,Keep.refl S,rfl⟩
 show enterB Tryz.prog KK (fns Tryz.prog KK 0) 92 [x] S=_
 unfold enterB
 rw[Tryz.func92]
 show(match KK.ext 92 [x] S with
  |some (v,S')=>some (Ending.returned v,S')
  |none=>none)=_
 rw[h]
def bcl(pa:Value)(a:Option Addr)(n:Nat):List Value:=[pa,.slice a n n]
theorem cv_to{S:St}{B:Nat}{x y:Value}(hg:S.get B=some (.cells [x,y] 80 false true [])):convV Tryz.prog S 77 150 (ptrTo B 0)=some (ptrTo B 0,S):=by
 have h1:szOf Tryz.prog 80=some 2:=by kernel_rfl
 unfold convV ptrTo
 simp only[Tryz.underlying77,Tryz.underlying150,h1,hg]
 rfl
theorem cv_from{S:St}{B:Nat}{x y:Value}(hg:S.get B=some (.cells [x,y] 80 false true [])):convV Tryz.prog S 150 77 (ptrTo B 0)=some (ptrTo B 0,S):=by
 have h1:szOf Tryz.prog 80=some 2:=by kernel_rfl
 have h2:(!(Nat.beq 80 0)&&liesAt Tryz.prog Tryz.prog.depth 80 (2/Tryz.prog.cellsOf 80) 0 80 1)=true:=by kernel_rfl
 unfold convV ptrTo
 simp only[Tryz.underlying77,Tryz.underlying150,h1,hg]
 show(bif (!(Nat.beq 80 0)&&liesAt Tryz.prog Tryz.prog.depth 80 (2/Tryz.prog.cellsOf 80) 0 80 1)then _ else _)=_
 rw[h2]
 rfl
theorem ptr_eq{B:Nat}:eqV Tryz.prog eqDepth 77 (ptrTo B 0) (ptrTo B 0)=some true:=by
 have h1:(Tryz.prog.info? 80).isSome=true:=by kernel_rfl
 show eqV Tryz.prog 40 77 (ptrTo B 0) (ptrTo B 0)=some true
 unfold eqV ptrTo
 simp only[Tryz.underlying77,nbeq_tt,h1]
 rfl
theorem ptr_ne{B:Nat}{xo yo:Operand}:binV Tryz.prog .neq 77 xo yo (ptrTo B 0) (ptrTo B 0)=some (.bool false):=by
 have hg:Tryz.prog.eqGuardType Tryz.prog.depth 77=false:=by kernel_rfl
 have h:=ptr_eq (B:=B)
 unfold ptrTo at h ⊢
 unfold binV
 simp only[guardFree]
 rw[h]
 rfl
noncomputable def cd71:Code:=Tryz.f71.body.getD .skip
theorem spec71(S0:St)(Ts:List St)(l:List (Nat×Blk))(gs:List Gr)(B:Nat)(pa:Value)(a:Option Addr)(n:Nat)(hpa:pa= .pointer none∨pa=ptrTo B 0)(hl:HoldG S0 Ts S ([(B,.cells (bcl pa a n) 80 false true [])]++l) gs):CC Tryz.prog KK 71 [ptrTo B 0] S (fun v S'=>v=tupV []∧HoldG S0 Ts S' ([(B,.cells (bcl (ptrTo B 0) a n) 80 false true [])]++l) gs):=by
 refine cc_enter (c:=cd71) (n:=20) Tryz.func71 rfl rfl rfl (by kernel_rfl) rfl rfl ?_
 have hl:HoldG S0 Ts S ((B,.cells [pa,.slice a n n] 80 false true [])::l) gs:=hl
 rcases hpa with rfl|rfl
 ·
  refine zg ?_;refine rr rfl (rd_load rfl rfl (l1 (hl.get 0 rfl) rfl)) ?_;refine zg ?_;refine re_conv rfl rfl rfl rfl rfl (v:=ptrTo B 0) (S':=S) rfl (cv_to (hl.get 0 rfl)) ?_
  refine zc hl rfl (no_esc _ _) ?_;rintro v S1 hk1 rfl hl
  refine re_conv rfl rfl rfl rfl rfl (v:=ptrTo B 0) (S':=S1) rfl (cv_from (hl.get 0 rfl)) ?_;refine zg ?_;refine re_storeL hl 0 rfl rfl rfl rfl rfl rfl rfl (by kernel_rfl) (c':=[ptrTo B 0,.slice a n n]) rfl ?_
  intro S2 hl
  refine zg ?_
  exact done_normal rfl ⟨rfl,hl⟩
 refine zg ?_;refine rr rfl (rd_load rfl rfl (l1 (hl.get 0 rfl) rfl)) ?_;refine zg ?_;refine rr rfl (rd_load rfl rfl (l1 (hl.get 0 rfl) rfl)) ?_;refine zg ?_;refine rr rfl (rd_bin rfl rfl rfl ptr_ne) ?_;refine zg ?_
 exact done_normal rfl ⟨rfl,hl⟩
def ubc(n:Int):List Value:=[.int .u8 n]
abbrev OwU(v:Value)(C:List Int)(fr:List (Nat×Blk)):Prop:=OW v 5 1 ((C.map ubc).flatten) C.length fr
theorem u_push{a:Option Addr}{C:List Int}{x:Int}{fr:List (Nat×Blk)}(h:OW (.slice a (C.length+1) (C.length+1)) 5 1 ((C.map ubc).flatten++ubc x) (C.length+1) fr):OwU (.slice a (C++[x]).length (C++[x]).length) (C++[x]) fr:=OW.push h
noncomputable def cd72:Code:=Tryz.f72.body.getD .skip
theorem spec72(S0:St)(q l:List (Nat×Blk))(a:Option Addr)(D:List Int)(fb:List (Nat×Blk))(r:Int)(hr0:0≤r)(hr1:r≤127)(hD:D.length≤1000)(hO:OwU (.slice a D.length D.length) D fb)(hl:HoldG S0 [S0] S (q++(fb++l)) []):CC Tryz.prog KK 72 [.slice a D.length D.length,.int .i32 r] S (fun v S'=>∃a2 fb2,v= .slice a2 (D++[r]).length (D++[r]).length∧OwU (.slice a2 (D++[r]).length (D++[r]).length) (D++[r]) fb2∧HoldG S0 [S0] S' (q++(fb2++l)) []):=by
 refine cc_enter (c:=cd72) (n:=16) Tryz.func72 rfl rfl rfl (by kernel_rfl) rfl rfl ?_
 have hw1:IntKind.u32.wrap r=r:=by
  unfold IntKind.wrap
  simp[IntKind.bits,IntKind.signed]
  omega
 have hw2:IntKind.u8.wrap r=r:=by
  unfold IntKind.wrap
  simp[IntKind.bits,IntKind.signed]
  omega
 refine zg ?_;refine re_conv rfl rfl rfl rfl rfl (v:= .int .u32 (IntKind.u32.wrap r)) (S':=S) rfl rfl ?_
 rw[hw1]
 refine zg ?_
 constructor<;>intro h7
 ·
  refine zg ?_;refine re_conv rfl rfl rfl rfl rfl (v:= .int .u8 (IntKind.u8.wrap r)) (S':=S) rfl rfl ?_
  rw[hw2]
  refine re_buildSliceR hl rfl rfl rfl rfl rfl Tryz.underlying78 rfl (c:=ubc r) (by kernel_rfl) ?_;intro B11 S1 hr11 hl;refine re_appendW hl hO rfl rfl rfl rfl rfl rfl rfl Tryz.underlying78 Tryz.underlying78 rfl rfl (by decide) (by kernel_rfl) (src_row_ (n:=1) (cap:=1) (new:=ubc r) hr11 rfl) rfl rfl (by kernel_rfl) (by show D.length+1≤maxNeed;unfold maxNeed;omega) ?_;intro v12 f2 S2 hO2 hl
  obtain⟨a2,rfl⟩:=hO2.is
  have hO2:=u_push hO2
  have e2:D.length+1=(D++[r]).length:=(len_push ..).symm
  rw[e2]
  refine zg ?_
  exact z1 rfl ⟨a2,f2,rfl,hO2,hl⟩
 have h7:=of_decide_eq_false h7
 omega
end Go.Proofs.YtmfphenhpkgidaaGreatDoor
namespace Go.Proofs.YtmfphenhpkgidaaGreatDoor
open Go.Cm Go
set_option maxRecDepth 100000
variable{S:St}
noncomputable def cd43:Code:=Tryz.f43.body.getD .skip
theorem spec43(S0:St)(B:Nat)(pa:Value)(a:Option Addr)(D:List Int)(fb:List (Nat×Blk))(r:Int)(hpa:pa= .pointer none∨pa=ptrTo B 0)(hr0:0≤r)(hr1:r≤127)(hD:D.length≤1000)(hO:OwU (.slice a D.length D.length) D fb)(hl:HoldG S0 [S0] S ([(B,.cells (bcl pa a D.length) 80 false true [])]++(fb++[])) []):CC Tryz.prog KK 43 [ptrTo B 0,.int .i32 r] S (fun v S'=>∃(k:Int) (a2:Option Addr) (fb2:List (Nat×Blk)),v=tupV [.int .i64 k,.nilIface]∧OwU (.slice a2 (D++[r]).length (D++[r]).length) (D++[r]) fb2∧HoldG S0 [S0] S' ([(B,.cells (bcl (ptrTo B 0) a2 (D++[r]).length) 80 false true [])]++(fb2++[])) []):=by
 refine cc_enter (c:=cd43) (n:=30) Tryz.func43 rfl rfl rfl (by kernel_rfl) rfl rfl ?_;refine zg ?_
 refine re_call rfl rfl rfl rfl rfl rfl rfl (cc_mono (spec71 S0 [S0] (fb++[]) [] B pa a D.length hpa hl) ?_);rintro v S1 ⟨rfl,hl⟩
 have hl:HoldG S0 [S0] S1 ((B,.cells [ptrTo B 0,.slice a D.length D.length] 80 false true [])::(fb++[])) []:=hl
 refine zg ?_
 refine re_call rfl rfl rfl rfl rfl rfl rfl (cc_mono (spec72 S0 [(B,.cells [ptrTo B 0,.slice a D.length D.length] 80 false true [])] [] a D fb r hr0 hr1 hD hO hl) ?_);rintro v S2 ⟨a2,fb2,rfl,hO2,hl⟩
 have hl:HoldG S0 [S0] S2 ((B,.cells [ptrTo B 0,.slice a D.length D.length] 80 false true [])::(fb2++[])) []:=hl
 have hln:(D++[r]).length=D.length+1:=len_push ..
 refine zg ?_;refine re_storeL hl 0 rfl rfl rfl rfl rfl rfl rfl (by kernel_rfl) (c':=[ptrTo B 0,.slice a2 (D++[r]).length (D++[r]).length]) rfl ?_
 intro S3 hl
 have hl:HoldG S0 [S0] S3 ((B,.cells [ptrTo B 0,.slice a2 (D++[r]).length (D++[r]).length] 80 false true [])::(fb2++[])) []:=hl
 refine zg ?_
 exact y2 rfl rfl ⟨_,a2,fb2,rfl,hO2,hl⟩
def bsO(D:List Int):List UInt8:=D.map fun n=>UInt8.ofNat n.toNat
theorem bytes_ub:∀(D:List Int),bytesL ((D.map ubc).flatten)=some (bsO D)
 | []=>rfl
 |n::D=>by
  show(match bytesL ((D.map ubc).flatten)with
   |some l=>some (UInt8.ofNat n.toNat::l)
   |none=>none)=_
  rw[bytes_ub D]
  rfl
theorem sd_of{S:St}{b m:Nat}{ts:List TypeId}(h:0<m):builtinV Tryz.prog .unsafeSliceData ts [.slice (some ⟨b,0,none⟩) m m] S=some (ptrTo b 0,S):=by
 cases m with
 |zero=>omega
 |succ m=>rfl
theorem us_of{S:St}{b:Nat}{D:List Int}{kin:List Nat}(hg:S.get b=some (.cells ((D.map ubc).flatten) 5 true true kin))(h0:0<D.length)(h1:D.length≤1000):builtinV Tryz.prog .unsafeString [114,3] [ptrTo b 0,.int .i64 (D.length:Int)] S=some (.string ⟨(bsO D).toArray⟩,(S.kill kin).set b (.cells ((D.map ubc).flatten) 5 true false [])):=by
 obtain⟨k,hk⟩:∃k,D.length=k+1:=⟨D.length-1,by omega⟩
 have hl:((D.map ubc).flatten).length=k+1:=by rw[flat_len (f:=ubc) (z:=1) (fun _=>rfl)];omega
 have ht:takeN (k+1) (dropN 0 ((D.map ubc).flatten))=some ((D.map ubc).flatten):=by
  show takeN (k+1) ((D.map ubc).flatten)=_
  rw[←hl]
  exact takeN_all _
 have hb:(Nat.beq 5 5&&!(Nat.beq 5 0)&&Nat.beq (Tryz.prog.cellsOf 5) 1&&Nat.blt k 1000000)=true:=by
  have e1:(Nat.beq 5 5&&!(Nat.beq 5 0)&&Nat.beq (Tryz.prog.cellsOf 5) 1)=true:=by kernel_rfl
  have e2:Nat.blt k 1000000=true:=by
   unfold Nat.blt
   exact Nat.ble_eq_true_of_le (by omega)
  rw[e1,e2]
  rfl
 rw[hk]
 show unsafeStringV Tryz.prog [114,3] (ptrTo b 0) (Int.ofNat (k+1)) S=_
 unfold unsafeStringV ptrTo
 simp only[Tryz.underlying114,hg]
 rw[hb,ht]
 show(match bytesL ((D.map ubc).flatten)with
  |some bs=>some (Value.string ⟨bs.toArray⟩,(S.kill kin).set b (.cells ((D.map ubc).flatten) 5 true false []))
  |none=>none)=_
 rw[bytes_ub]
noncomputable def cd46:Code:=Tryz.f46.body.getD .skip
theorem spec46(S0:St)(B:Nat)(pa:Value)(a:Option Addr)(D:List Int)(fb:List (Nat×Blk))(hD:D.length≤1000)(ha:D.length=0→a=none)(hO:OwU (.slice a D.length D.length) D fb)(hl:HoldG S0 [S0] S ([(B,.cells (bcl pa a D.length) 80 false true [])]++(fb++[])) []):CC Tryz.prog KK 46 [ptrTo B 0] S (fun v S'=>v= .string ⟨(bsO D).toArray⟩∧Keep S0 S'):=by
 refine cc_enter (c:=cd46) (n:=14) Tryz.func46 rfl rfl rfl (by kernel_rfl) rfl rfl ?_
 have hl:HoldG S0 [S0] S ((B,.cells [pa,.slice a D.length D.length] 80 false true [])::(fb++[])) []:=hl
 refine zg ?_;refine xp_draw (idx:=[0,1,2,3,5,6,7,8,9,4,10,11]) rfl (by kernel_rfl) (by kernel_rfl) ?_;refine zg ?_
 rcases hO with ⟨h1,h2,h3,rfl⟩|⟨b,dd,h1,h2,rfl⟩
 ·
  obtain rfl:D= []:=List.eq_nil_of_length_eq_zero h3
  cases h1
  refine rp_builtin rfl rfl rfl rfl rfl rfl rfl (v:= .pointer none) (S':=S) rfl ⟨zt,?_⟩
  refine rp_builtin rfl rfl rfl rfl rfl rfl rfl (v:= .string ⟨#[]⟩) (S':=S) rfl ⟨zt,?_⟩
  refine zg ?_
  exact y1 rfl ⟨rfl,hl.keep⟩
 obtain⟨rfl⟩:a=some ⟨b,0,none⟩:=by cases h1;rfl
 have h0:0<D.length:=by
  rcases Nat.eq_zero_or_pos D.length with h|h
  ·exact absurd (ha h) (by simp)
  exact h
 have hl:HoldG S0 [S0] S ([(B,.cells [pa,.slice (some ⟨b,0,none⟩) D.length D.length] 80 false true [])]++(b,.cells ((D.map ubc).flatten) 5 true true (dd.map (·.1)))::dd) []:=hl.perm (.of_eq (by rw[List.append_nil];rfl))
 refine rp_builtin rfl rfl rfl rfl rfl rfl rfl (sd_of h0) ⟨zt,?_⟩
 have hg:=hl.get 1 rfl
 have hl:=hl.putW (.cells ((D.map ubc).flatten) 5 true false [])
 refine rp_builtin rfl rfl rfl rfl rfl rfl rfl (us_of hg h0 hD) ⟨zt,?_⟩
 refine zg ?_
 exact y1 rfl ⟨rfl,hl.keep⟩
end Go.Proofs.YtmfphenhpkgidaaGreatDoor
namespace Go.Proofs.YtmfphenhpkgidaaGreatDoor
open Go.Cm Go
set_option maxRecDepth 100000
variable{S:St}
def kb(l:List UInt8):Value:= .string ⟨l.toArray⟩
theorem sameB_iff:∀(l r:List UInt8),sameBytes l r=decide (l=r)
 | [],[]=>rfl
 | [],b::r=>rfl
 |a::l,[]=>rfl
 |a::l,b::r=>by
  show(bif Nat.beq a.toNat b.toNat then sameBytes l r else false)=_
  rw[sameB_iff l r]
  by_cases h:a=b
  ·subst h
   rw[nbeq_tt,cond_true]
   by_cases h2:l=r
   ·rw[decide_eq_true h2,decide_eq_true (by rw[h2])]
   rw[decide_eq_false h2,decide_eq_false (fun e=>h2 (List.cons.inj e).2)]
  have:Nat.beq a.toNat b.toNat=false:=by
   cases hb:Nat.beq a.toNat b.toNat with
   |false=>rfl
   |true=>exact absurd (UInt8.toNat_inj.1 (of_nbeq hb)) h
  rw[this,cond_false,decide_eq_false (fun e=>h (List.cons.inj e).1)]
theorem kb_eq(a b:List UInt8):eqV Tryz.prog eqDepth 9 (kb a) (kb b)=some (decide (a=b)):=by
 show eqV Tryz.prog 40 9 (.string ⟨a.toArray⟩) (.string ⟨b.toArray⟩)=_
 unfold eqV
 simp only[Tryz.underlying9]
 rw[←sameB_iff]
theorem kb_ok(a:List UInt8):keyOk Tryz.prog 20 9 (kb a)=true:=by
 show keyOk Tryz.prog (19+1) 9 (.string ⟨a.toArray⟩)=true
 kernel_rfl
theorem kb_sm(a:List UInt8):sameV 1000 (kb a) (kb a)=true:=by
 show sameV (999+1) (.string _) (.string _)=true
 unfold sameV
 exact sameBytes_refl _
theorem sg_ok(s:Sg):keyOk Tryz.prog 20 55 s.v=true:=by
 show keyOk Tryz.prog (19+1) 55 (aggL s.cells)=true
 kernel_rfl
theorem sg_sm(s:Sg):sameV 1000 s.v s.v=true:=by
 show sameV (999+1) (.agg _) (.agg _)=true
 unfold sameV
 exact sameL_atoms _ 999 (by decide:17<999) (by unfold Sg.cells;repeat (first|exact atoms_nil|refine atoms_cons (atom_int _ _) ?_|refine atoms_cons (atom_bool _) ?_))
def CtD{κ:Type}[DecidableEq κ](D:List (κ×Value))(m:Int):Prop:= ∀k,asc D k=none∨∃n:Int,1≤n∧n≤m∧asc D k=some (.int .i64 n)
noncomputable def cd45:Code:=Tryz.f45.body.getD .skip
theorem spec45(S0:St)(Ts:List St)(l:List (Nat×Blk))(gs:List Gr)(B:Nat)(D:List (List UInt8×Value))(k:List UInt8)(m:Int)(hm:m≤100000)(hD:CtD D m)(hl:HoldG S0 Ts S ([(B,mapB kb D)]++l) gs):CC Tryz.prog KK 45 [.map (some B),kb k] S (fun v S'=>∃c:Int,v= .bool (asc D k).isNone∧1≤c∧c≤max m 0+1∧HoldG S0 Ts S' ([(B,mapB kb (putA D k (.int .i64 c)))]++l) gs):=by
 refine cc_enter (c:=cd45) (n:=13) Tryz.func45 rfl rfl rfl (by kernel_rfl) rfl rfl ?_
 have hl:HoldG S0 Ts S ((B,mapB kb D)::l) gs:=hl
 refine zg ?_;refine rr rfl (rd_lookup rfl rfl rfl (lookup_of Tryz.underlying75 (hl.get 0 rfl) kb_eq (kb_ok k) rfl)) ?_
 rcases hD k with h|⟨n,hn0,hn1,h⟩
 ·
  rw[h]
  refine zg ?_;refine re_mapUpdateL hl 0 (k:=k) (v:= .int .i64 1) rfl rfl rfl rfl rfl rfl rfl rfl Tryz.underlying75 kb_eq (kb_ok k) rfl (kb_sm k) ?_;intro S1 hl
  have hl:HoldG S0 Ts S1 ((B,mapB kb (putA D k (.int .i64 1)))::l) gs:=hl
  refine zg ?_;refine rr rfl (rd_lookup rfl rfl rfl (lookup_of Tryz.underlying75 (hl.get 0 rfl) kb_eq (kb_ok k) rfl)) ?_
  rw[asc_put,if_pos rfl]
  refine zg ?_
  exact y1 rfl ⟨1,rfl,by omega,by omega,hl⟩
 rw[h]
 have hw:(some (Value.int .i64 n)).getD (.int .i64 0)= .int .i64 n:=rfl
 rw[hw]
 refine zg ?_;refine re_mapUpdateL hl 0 (k:=k) (v:= .int .i64 (n+1)) rfl rfl rfl rfl rfl rfl rfl rfl Tryz.underlying75 kb_eq (kb_ok k) rfl (kb_sm k) ?_;intro S1 hl
 have hl:HoldG S0 Ts S1 ((B,mapB kb (putA D k (.int .i64 (n+1))))::l) gs:=hl
 refine zg ?_;refine rr rfl (rd_lookup rfl rfl rfl (lookup_of Tryz.underlying75 (hl.get 0 rfl) kb_eq (kb_ok k) rfl)) ?_
 rw[asc_put,if_pos rfl]
 have hw2:(some (Value.int .i64 (n+1))).getD (.int .i64 0)= .int .i64 (n+1):=rfl
 rw[hw2]
 refine zg ?_
 have h1:((n+1)==(1:Int))=false:=by simp;omega
 exact y1 rfl ⟨n+1,by rw[h1];rfl,by omega,by omega,hl⟩
end Go.Proofs.YtmfphenhpkgidaaGreatDoor
namespace Go.Proofs.YtmfphenhpkgidaaGreatDoor
open Go.Cm Go
set_option maxRecDepth 100000
variable{S:St}
def ix(s:Sg):List Sg→Option Nat
 | []=>none
 |y::U=>if y=s then some 0 else(ix s U).map (· +1)
theorem ix_none{s:Sg}:∀{U:List Sg},s∉U→ix s U=none
 | [],_=>rfl
 |y::U,h=>by
  rw[ix,if_neg (fun e=>h (by rw[e];exact List.mem_cons_self ..)),ix_none (fun e=>h (List.mem_cons_of_mem _ e))]
  rfl
theorem ix_some{s:Sg}:∀{U:List Sg},s∈U→∃i,ix s U=some i∧i<U.length
 | [],h=>(List.not_mem_nil h).elim
 |y::U,h=>by
  rw[ix]
  by_cases e:y=s
  ·exact⟨0,if_pos e,by simp⟩
  rw[if_neg e]
  obtain⟨i,h1,h2⟩:=ix_some (U:=U) (by
   rcases List.mem_cons.1 h with h|h
   ·exact absurd h.symm e
   exact h)
  exact⟨i+1,by rw[h1];rfl,by simp;omega⟩
theorem ix_nth{s:Sg}:∀{U:List Sg} {i:Nat},ix s U=some i→nth U i=some s
 | [],_,h=>by cases h
 |y::U,i,h=>by
  rw[ix]at h
  by_cases e:y=s
  ·rw[if_pos e]at h
   cases h
   rw[e]
   rfl
  rw[if_neg e]at h
  cases hk:ix s U with
  |none=>rw[hk]at h;cases h
  |some k =>
   rw[hk]at h
   cases h
   exact ix_nth (U:=U) (i:=k) hk
theorem ix_app{s t:Sg}:∀{U:List Sg},s∉U→ix t (U++[s])=if t=s then some U.length else ix t U
 | [],_=>by
  show(if s=t then some 0 else none)=if t=s then some 0 else none
  by_cases e:s=t
  ·rw[if_pos e,if_pos e.symm]
  rw[if_neg e,if_neg (fun h=>e h.symm)]
 |y::U,h=>by
  have h1:=ix_app (t:=t) (U:=U) (fun e=>h (List.mem_cons_of_mem _ e))
  rw[List.cons_append,ix,h1,ix]
  by_cases e:y=t
  ·subst e
   rw[if_pos rfl,if_neg (fun e2=>h (by rw[←e2];exact List.mem_cons_self ..)),if_pos rfl]
  rw[if_neg e,if_neg e]
  by_cases e2:t=s
  ·rw[if_pos e2,if_pos e2]
   rfl
  rw[if_neg e2,if_neg e2]
def NmOk(D:List (Sg×Value))(U:List Sg):Prop:=D.length=U.length∧∀s,asc D s=(ix s U).map fun i=>Value.int .i64 ((i:Int)+1)
theorem nm_nil:NmOk [] []:=⟨rfl,fun _=>rfl⟩
theorem nm_put{D:List (Sg×Value)}{U:List Sg}{s:Sg}(h:NmOk D U)(hs:s∉U):NmOk (putA D s (.int .i64 ((D.length:Int)+1))) (U++[s]):=by
 have ha:asc D s=none:=by rw[h.2,ix_none hs];rfl
 have hp:posA D s=none:=by
  unfold asc at ha
  cases hx:posA D s with
  |none=>rfl
  |some x=>rw[hx]at ha;cases ha
 refine⟨by rw[put_len_none hp,h.1,List.length_append];rfl,fun t=>?_⟩
 rw[asc_put,ix_app hs]
 by_cases e:t=s
 ·rw[if_pos e,if_pos e,h.1]
  rfl
 rw[if_neg e,if_neg e]
 exact h.2 t
theorem nm_get{D:List (Sg×Value)}{U:List Sg}(h:NmOk D U)(s:Sg):∃n:Int,(asc D s).getD (.int .i64 0)= .int .i64 n∧0≤n∧n≤U.length∧(n=0↔s∉U):=by
 rw[h.2]
 by_cases hs:s∈U
 ·obtain⟨i,h1,h2⟩:=ix_some hs
  rw[h1]
  exact⟨(i:Int)+1,rfl,by omega,by omega,fun e=>by omega,fun e=>absurd hs e⟩
 rw[ix_none hs]
 exact⟨0,rfl,by omega,by omega,fun _=>hs,fun _=>rfl⟩
def kyN(U:List Sg)(s:Sg):Int:=((ix s U).getD 0:Nat)+1
theorem ky_get{D:List (Sg×Value)}{U:List Sg}(h:NmOk D U){s:Sg}(hs:s∈U):(asc D s).getD (.int .i64 0)= .int .i64 (kyN U s):=by
 obtain⟨i,h1,_⟩:=ix_some hs
 rw[h.2,kyN,h1]
 rfl
theorem ky_bd{U:List Sg}{s:Sg}(hs:s∈U):1≤kyN U s∧kyN U s≤U.length:=by
 obtain⟨i,h1,h2⟩:=ix_some hs
 rw[kyN,h1]
 show 1≤(i:Int)+1∧(i:Int)+1≤U.length
 omega
theorem ky_inj{U:List Sg}{s t:Sg}(hU:U.length≤127)(hs:s∈U)(ht:t∈U)(h:UInt8.ofNat (kyN U s).toNat=UInt8.ofNat (kyN U t).toNat):s=t:=by
 obtain⟨i,h1,h2⟩:=ix_some hs
 obtain⟨j,k1,k2⟩:=ix_some ht
 have e1:(kyN U s).toNat=i+1:=by rw[kyN,h1];show((i:Int)+1).toNat=_;omega
 have e2:(kyN U t).toNat=j+1:=by rw[kyN,k1];show((j:Int)+1).toNat=_;omega
 rw[e1,e2]at h
 have h3:=congrArg UInt8.toNat h
 rw[UInt8.toNat_ofNat',UInt8.toNat_ofNat']at h3
 have hij:i=j:=by omega
 subst hij
 have a1:=ix_nth h1
 have a2:=ix_nth k1
 rw[a1]at a2
 exact Option.some.inj a2
def kyP(U:List Sg)(p:List Sg):List UInt8:=bsO (p.map (kyN U))
theorem kyP_inj{U:List Sg}(hU:U.length≤127):∀{p q:List Sg},(∀s,s∈p→s∈U)→(∀s,s∈q→s∈U)→kyP U p=kyP U q→p=q
 | [],[],_,_,_=>rfl
 | [],t::q,_,_,h=>by cases h
 |s::p,[],_,_,h=>by cases h
 |s::p,t::q,hp,hq,h=>by
  have h1:UInt8.ofNat (kyN U s).toNat::kyP U p=UInt8.ofNat (kyN U t).toNat::kyP U q:=h
  obtain⟨h2,h3⟩:=List.cons.inj h1
  rw[ky_inj hU (hp s (List.mem_cons_self ..)) (hq t (List.mem_cons_self ..)) h2,kyP_inj hU (fun x hx=>hp x (List.mem_cons_of_mem _ hx)) (fun x hx=>hq x (List.mem_cons_of_mem _ hx)) h3]
def SnOk(U:List Sg)(D:List (List UInt8×Value))(O:List (List Sg))(m:Int):Prop:=CtD D m∧(∀p,p∈O→∀s,s∈p→s∈U)∧∀p,(∀s,s∈p→s∈U)→(asc D (kyP U p)).isNone=!decide (p∈O)
theorem sn_nil(U:List Sg):SnOk U [] [] 0:=⟨fun _=> .inl rfl,fun _ hp=>(List.not_mem_nil hp).elim,fun _ _=>rfl⟩
theorem sn_put{U:List Sg}(hU:U.length≤127){D:List (List UInt8×Value)}{O:List (List Sg)}{m c:Int}{p:List Sg}(h:SnOk U D O m)(hp:∀s,s∈p→s∈U)(hm:0≤m)(hc1:1≤c)(hc2:c≤max m 0+1):SnOk U (putA D (kyP U p) (.int .i64 c)) (bif !decide (p∈O)then O++[p]else O) (m+1):=by
 have hmem:∀q,q∈(bif !decide (p∈O)then O++[p]else O)↔q=p∨q∈O:=fun q=>by
  by_cases e:p∈O
  ·rw[decide_eq_true e]
   show q∈O↔_
   constructor
   ·exact .inr
   rintro(rfl|h)
   ·exact e
   exact h
  rw[decide_eq_false e]
  show q∈O++[p]↔_
  rw[List.mem_append,List.mem_singleton]
  exact or_comm
 refine⟨fun k=>?_,fun q hq=>?_,fun q hq=>?_⟩
 ·rw[asc_put]
  by_cases e:k=kyP U p
  ·rw[if_pos e]
   exact .inr ⟨c,hc1,by omega,rfl⟩
  rw[if_neg e]
  rcases h.1 k with h1|⟨n,h1,h2,h3⟩
  ·exact .inl h1
  exact .inr ⟨n,h1,by omega,h3⟩
 ·rcases(hmem q).1 hq with rfl|h1
  ·exact hp
  exact h.2.1 q h1
 rw[asc_put]
 by_cases e:kyP U q=kyP U p
 ·have:=kyP_inj hU hq hp e
  subst this
  rw[if_pos e,decide_eq_true ((hmem q).2 (.inl rfl))]
  rfl
 rw[if_neg e,h.2.2 q hq]
 have hne:q≠p:=fun e2=>e (by rw[e2])
 congr 1
 rw[decide_eq_decide,hmem]
 constructor
 ·exact .inr
 rintro(rfl|h1)
 ·exact absurd rfl hne
 exact h1
theorem inc_stop:∀(j:Nat) (L:List Spt) (cs:List Nat),cs.length=L.length→(incL (L.drop j) (cs.drop j)).2=false→incL L cs=(cs.take j++(incL (L.drop j) (cs.drop j)).1,false)
 |0,L,cs,_,h=>by
  rw[List.drop_zero,List.drop_zero]at h ⊢
  rw[List.take_zero,List.nil_append]
  exact Prod.ext rfl h
 |j+1,[],cs,hl,h=>by
  cases cs with
  |nil=>rw[List.drop_nil,List.drop_nil]at h;cases h
  |cons c cs=>simp at hl
 |j+1,x::L,[],hl,h=>by simp at hl
 |j+1,x::L,c::cs,hl,h=>by
  rw[List.drop_succ_cons,List.drop_succ_cons]at h ⊢
  have h1:=inc_stop j L cs (by simpa using hl) h
  rw[incL,h1]
  rfl
theorem inc_len:∀(L:List Spt) (cs:List Nat),cs.length=L.length→(incL L cs).1.length=L.length
 | [],[],_=>rfl
 | [],c::cs,h=>by simp at h
 |x::L,[],h=>by simp at h
 |x::L,c::cs,h=>by
  have h1:=inc_len L cs (by simpa using h)
  rw[incL]
  cases (incL L cs).2 with
  |false =>
   show((c::(incL L cs).1).length)=_
   rw[List.length_cons,h1,List.length_cons]
  |true =>
   cases decide (c+1<szN x)with
   |true =>
    show(((c+1)::(incL L cs).1).length)=_
    rw[List.length_cons,h1,List.length_cons]
   |false =>
    show((0::(incL L cs).1).length)=_
    rw[List.length_cons,h1,List.length_cons]
theorem inc_at{L:List Spt}{cs:List Nat}{j:Nat}{x:Spt}{c:Nat}(hx:nth L j=some x)(hc:nth cs j=some c)(hcar:(incL (L.drop (j+1)) (cs.drop (j+1))).2=true):incL (L.drop j) (cs.drop j)=(bif decide (c+1<szN x)then((c+1)::(incL (L.drop (j+1)) (cs.drop (j+1))).1,false)else(0::(incL (L.drop (j+1)) (cs.drop (j+1))).1,true)):=by
 have e1:L.drop j=x::L.drop (j+1):=drop_nth' hx
 have e2:cs.drop j=c::cs.drop (j+1):=by
  rw[nth_eq]at hc
  obtain⟨h1,h2⟩:=List.getElem?_eq_some_iff.1 hc
  rw[List.drop_eq_getElem_cons h1,h2]
 rw[e1,e2,incL,hcar]
 rfl
theorem hold_putE{S0 S:St}{l:List (Nat×Blk)}{gs:List Gr}(h:HoldG S0 [S0] S l gs){k b:Nat}{c:List Value}{e:TypeId}(hk:nth l k=some (b,.cells c e true true []))(hge:∀g,g∈gs→g.e≠e)(y:Blk):HoldG S0 [S0] (S.set b y) (putB k y l) gs:=by
 have h0:=hold_drop h
 have h2:=h0.putR hk (h0.old hk) y
 have hb:=h.at_ b _ (nth_mem hk)
 refine⟨h2.keep,h2.nd,h2.at_,h2.rk,fun g hg=>?_⟩
 rcases h.gr g hg with h1|⟨b2,kin,h1,h3,h4,h5,h6⟩
 ·exact .inl h1
 refine .inr ⟨b2,kin,h1,h3,h4,?_,h6⟩
 rw[get_set',if_neg]
 ·exact h5
 rintro rfl
 rw[hb.1]at h5
 cases h5
 exact hge g hg rfl
theorem ls_set{α:Type}{e e2:TypeId}{z:Nat}{f:α→List Value}{S:St}{v:Value}{C:List α}{b:Nat}{c:List Value}{o1 o2:Bool}{ks:List Nat}{y:Blk}(h:LsOf e z f S v C)(hb:S.get b=some (.cells c e2 o1 o2 ks))(hne:e≠e2):LsOf e z f (S.set b y) v C:=by
 rcases h with h|⟨b2,o,cap,cs,h1,h2,⟨h3,own,kin,h4⟩,h5⟩
 ·exact .inl h
 refine .inr ⟨b2,o,cap,cs,h1,h2,⟨h3,own,kin,?_⟩,h5⟩
 rw[get_set',if_neg]
 ·exact h4
 rintro rfl
 rw[hb]at h4
 cases h4
 exact hne rfl
end Go.Proofs.YtmfphenhpkgidaaGreatDoor
namespace Go.Proofs.YtmfphenhpkgidaaGreatDoor
open Go.Cm Go
set_option maxRecDepth 100000
variable{S:St}
theorem dg_zero:∀(L:List Spt),dg L 0=(List.replicate L.length 0,0)
 | []=>rfl
 |x::L=>by
  show(((dg L 0).2%szN x)::(dg L 0).1,(dg L 0).2/szN x)=_
  rw[dg_zero L]
  show((0%szN x)::List.replicate L.length 0,0/szN x)=_
  rw[Nat.zero_mod,Nat.zero_div]
  rfl
theorem pr_pos:∀{L:List Spt},(∀x,x∈L→1≤szN x∧szN x≤4)→0<prN L
 | [],_=>Nat.one_pos
 |x::_,h=>Nat.mul_pos (pr_pos fun y hy=>h y (List.mem_cons_of_mem _ hy)) (h x (List.mem_cons_self ..)).1
theorem set_mid{α:Type}:∀(A:List α) (c v:α) (Q:List α),(A++c::Q).set A.length v=A++v::Q
 | [],_,_,_=>rfl
 |a::A,c,v,Q=>congrArg (a:: ·) (set_mid A c v Q)
theorem sn_mono{U:List Sg}{D:List (List UInt8×Value)}{O:List (List Sg)}{m:Int}(h:SnOk U D O m):SnOk U D O (m+1):=by
 refine⟨fun k=>?_,h.2⟩
 rcases h.1 k with h1|⟨n,h1,h2,h3⟩
 ·exact .inl h1
 exact .inr ⟨n,h1,by omega,h3⟩
theorem ents_ln{κ:Type}(kc:κ→Value):∀(D:List (κ×Value)) (c:Nat),(ents kc c D).length=D.length
 | [],_=>rfl
 |(_,_)::D,c=>congrArg (· +1) (ents_ln kc D (c+1))
theorem len_map_{S:St}{κ:Type}{kc:κ→Value}{D:List (κ×Value)}{r:Nat}(hg:S.get r=some (mapB kc D)):lenV Tryz.prog 74 (.map (some r)) S=some (.int .i64 (D.length:Int)):=by
 unfold lenV
 simp only[Tryz.underlying74,hg,mapB]
 rw[ents_ln]
abbrev OwPr(nm:ByteArray)(v:Value)(P:List Pr)(fr:List (Nat×Blk)):Prop:=OW v 44 2 ((P.map (Pr.cells nm)).flatten) P.length fr
theorem pr_push{nm:ByteArray}{a:Option Addr}{C:List Pr}{x:Pr}{fr:List (Nat×Blk)}(h:OW (.slice a (C.length+1) (C.length+1)) 44 2 ((C.map (Pr.cells nm)).flatten++x.cells nm) (C.length+1) fr):OwPr nm (.slice a (C++[x]).length (C++[x]).length) (C++[x]) fr:=OW.push h
def cR(W:List Nat):List Value:=((W.map nc).map ic).flatten
theorem blk_out{id j:Nat}{Q:Post}{L:Env}{S:St}(h:Nat.beq j id=false)(q:Q (.exit j) L S):Blk' id Q (.exit j) L S:=by
 show(bif Nat.beq j id then Q .normal L S else Q (.exit j) L S)
 rw[h]
 exact q
theorem blk_in{id j:Nat}{Q:Post}{L:Env}{S:St}(h:Nat.beq j id=true)(q:Q .normal L S):Blk' id Q (.exit j) L S:=by
 show(bif Nat.beq j id then Q .normal L S else Q (.exit j) L S)
 rw[h]
 exact q
theorem thn_ex{P:Program}{K:Known}{n j:Nat}{ro:Option Nat}{y:Code}{L:Env}{S:St}{Q:Post}(h:Q (.exit j) L S):Thn P K n ro y Q (.exit j) L S:=h
theorem round_ex{I:Nat→Env→St→Prop}{m j:Nat}{L:Env}{S:St}{Q:Post}(h:Q (.exit j) L S):Round I m Q (.exit j) L S:=h
theorem row_set{W:List Nat}{j v:Nat}{W2:List Nat}(h:j<W.length)(e:W.set j v=W2):setN (0+j) (cellsL (Value.int .i64 (nc v))) (cR W)=some (cR W2):=by
 have h1:=setN_set (g:=fun x=>Value.int .i64 x) (C:=W.map nc) (k:=j) (nc v) (by rw[List.length_map];exact h)
 rw[←List.map_set,e]at h1
 rw[Nat.zero_add]
 exact h1
theorem dg_bd:∀{L:List Spt} {n:Nat},(∀x,x∈L→1≤szN x∧szN x≤4)→∀k,k∈(dg L n).1→k≤4
 | [],_,_,k,hk=>(List.not_mem_nil hk).elim
 |x::L,n,h,k,hk=>by
  have hx:=h x (List.mem_cons_self ..)
  rcases List.mem_cons.1 hk with e|hk
  ·rw[e]
   have:=Nat.mod_lt (dg L n).2 (show 0<szN x by omega)
   omega
  exact dg_bd (L:=L) (n:=n) (fun y hy=>h y (List.mem_cons_of_mem _ hy)) k hk
theorem inc_facts{L:List Spt}{i:Nat}(hi:i<prN L)(hp:∀x,x∈L→0<szN x):((incL L (dg L i).1).2=true→i+1=prN L)∧((incL L (dg L i).1).2=false→i+1<prN L)∧(incL L (dg L i).1).1=(dg L (i+1)).1:=by
 obtain⟨h1,h2⟩:=dg_up L i hp
 have h3:(dg L i).2=0:=by rw[dg_left];exact Nat.div_eq_of_lt hi
 rw[h3]at h1 h2
 rw[h1]
 refine⟨fun h=>?_,fun h=>?_,rfl⟩
 ·have h4:=of_decide_eq_true h
  rw[dg_left]at h4
  rcases Nat.lt_or_ge (i+1) (prN L)with h5|h5
  ·exact absurd (Nat.div_eq_of_lt h5) h4
  omega
 have h4:(dg L (i+1)).2=0:=by
  have:=of_decide_eq_false h
  exact Classical.not_not.1 this
 rw[dg_left]at h4
 rcases Nat.lt_or_ge (i+1) (prN L)with h5|h5
 ·exact h5
 have:=Nat.div_pos h5 (by omega)
 omega
noncomputable def cd13:Code:=Tryz.f13.body.getD .skip
set_option maxHeartbeats 4000000 in
theorem spec13(nm:ByteArray)(a:Option Addr)(cap:Nat)(L:List Spt)(_:nm.data.toList.length≤1000)(hn:L.length≤1000)(hn2:(choE nm.data.toList L).2=0→L.length≤24)(hs:∀x,x∈L→x.signs.length≤1000)(hF:Fresh S)(hG:Gl S)(hv:Spots S (.slice a L.length cap) L):CC Tryz.prog KK 13 [aggL [.string nm,.slice a L.length cap]] S (fun v S'=>Keep S S'∧(PtsR S' nm L v)):=by
 refine cc_enter (c:=cd13) (n:=120) Tryz.func13 rfl rfl rfl (by kernel_rfl) rfl rfl ?_
 have hl:=Hold.start S
 refine zg ?_;refine re_boxL hl rfl rfl rfl rfl rfl rfl ?_
 intro B1 S1 hl
 refine zg ?_;refine xp_scope rfl ?_;refine zg ?_
 refine zc hl rfl (spec11 nm a cap L hn hs (hG.keep hl.keep) (hv.move (hl.since 0 rfl))) ?_;rintro v S2 hk1 rfl hl
 refine zg ?_
 constructor<;>intro h27
 ·
  refine zg ?_
  exact thn_ret (scp_ret (y2 rfl rfl ⟨hl.keep,.inl ⟨by simpa using h27,rfl⟩⟩))
 have h0:(choE nm.data.toList L).2=0:=by simpa using h27
 obtain⟨hc,hcl⟩:=cho_le h0
 have hsz:=chk_sizes (cho_ok h0)
 have hL:=hn2 h0
 have hpp:=pr_pos hsz
 refine zg ?_;refine re_makeMapL hl Sg.v rfl rfl rfl rfl rfl ?_;intro B29 S29 hl;refine zA ?_;refine xp_seq rfl ?_;refine zS ?_;refine xp_block rfl ?_;refine xe_sub (L':=[(33,.int .i64 0),(32,.int .i64 L.length),(31,.slice a L.length cap),(6,.map (some B29)),(3,.int .i64 0),(2,.slice none 0 0),(1,ptrTo B1 0)]) ⟨rfl,rfl,rfl,rfl,rfl,rfl,rfl,trivial⟩ ?_
 refine xp_loop rfl (fun m Le S'=>∃(i:Nat) (Dn:List (Sg×Value)) (U:List Sg),i≤L.length∧m=L.length-i∧NmOk Dn U∧U.length≤4*i∧(∀y,y∈L.take i→∀s,s∈y.signs→s∈U)∧SubE [(33,.int .i64 (i:Int)),(32,.int .i64 L.length),(31,.slice a L.length cap),(6,.map (some B29)),(3,.int .i64 0),(2,.slice none 0 0),(1,ptrTo B1 0)] Le∧HoldG S [S] S' [(B29,mapB Sg.v Dn),(B1,.cells [.string nm,.slice a L.length cap] 24 false true [])] []) ?_ (m:=L.length) ⟨0,[],[],by omega,by omega,nm_nil,by simp,fun y hy=>(List.not_mem_nil hy).elim,⟨rfl,rfl,rfl,rfl,rfl,rfl,rfl,trivial⟩,hl⟩
 clear hl;rintro m Le S' ⟨i,Dn,U,hi,rfl,hD,hUl,hU,hsub,hl⟩;refine xe_sub hsub ?_
 refine zg ?_
 constructor<;>intro h34
 ·
  have hlt:i<L.length:=by have:=of_decide_eq_true h34;omega
  obtain⟨x,hx⟩:=nth_some hlt
  have hxs:=hs x (nth_mem hx)
  have hxz:=hsz x (nth_mem hx)
  have hx4:x.signs.length≤4:=by unfold szN at hxz;omega
  obtain⟨b1,o1,cs1,a1,c1,ha,hrow,htk,hsg⟩:=hv.elem hx
  refine zg ?_;refine re_allocL hl rfl rfl rfl rfl rfl (z:=[.slice none 0 0,.bool false]) (by kernel_rfl) ?_
  intro B8 S8 hl
  refine re_storeL hl 0 rfl rfl rfl rfl rfl rfl rfl (by kernel_rfl) (c':=[.slice a1 x.signs.length c1,.bool x.blank]) rfl ?_
  intro S9 hl
  refine zA ?_;refine zS ?_;refine xp_block rfl ?_;refine xe_sub (L':=[(40,.int .i64 0),(39,.int .i64 x.signs.length),(38,.slice a1 x.signs.length c1),(33,.int .i64 (i:Int)),(32,.int .i64 L.length),(31,.slice a L.length cap),(6,.map (some B29)),(3,.int .i64 0),(2,.slice none 0 0),(1,ptrTo B1 0)]) ⟨rfl,rfl,rfl,rfl,rfl,rfl,rfl,rfl,rfl,rfl,trivial⟩ ?_
  refine xp_loop rfl (fun m Le S'=>∃(k:Nat) (Dn:List (Sg×Value)) (U:List Sg),k≤x.signs.length∧m=x.signs.length-k∧NmOk Dn U∧U.length≤4*i+k∧(∀y,y∈L.take i→∀s,s∈y.signs→s∈U)∧(∀s,s∈x.signs.take k→s∈U)∧SubE [(40,.int .i64 (k:Int)),(39,.int .i64 x.signs.length),(38,.slice a1 x.signs.length c1),(33,.int .i64 (i:Int)),(32,.int .i64 L.length),(31,.slice a L.length cap),(6,.map (some B29)),(3,.int .i64 0),(2,.slice none 0 0),(1,ptrTo B1 0)] Le∧HoldG S [S] S' [(B8,.cells [.slice a1 x.signs.length c1,.bool x.blank] 49 false true []),(B29,mapB Sg.v Dn),(B1,.cells [.string nm,.slice a L.length cap] 24 false true [])] []) ?_ (m:=x.signs.length) ⟨0,Dn,U,by omega,by omega,hD,by omega,hU,fun s h=>(List.not_mem_nil h).elim,⟨rfl,rfl,rfl,rfl,rfl,rfl,rfl,rfl,rfl,rfl,trivial⟩,hl⟩
  clear hl hD hU hUl hsub ha hrow htk;rintro m Le S' ⟨k,Dn,U,hk,rfl,hD,hUl,hU,hUx,hsub,hl⟩;refine xe_sub hsub ?_
  refine zg ?_
  constructor<;>intro h41
  ·
   have hlt2:k<x.signs.length:=by have:=of_decide_eq_true h41;omega
   obtain⟨s,hsn⟩:=nth_some hlt2
   have hsg:Sgs S (.slice a1 x.signs.length c1) x.signs:=hsg
   obtain⟨b1,o1,cs1,ha,_,hrow,htk⟩:=hsg.elem hsn
   obtain⟨n,hn0,hn1,hn3,hn4⟩:=nm_get hD s
   refine zg ?_;refine re_allocL hl rfl rfl rfl rfl rfl (z:=[.int .i64 0,.int .i64 0,.int .i64 0,.int .i64 0,.bool false,.int .i64 0,.bool false,.bool false,.int .i64 0,.int .i64 0,.int .i64 0,.int .i64 0,.bool false,.int .i64 0,.int .i64 0,.int .i64 0,.int .i64 0]) (by kernel_rfl) ?_
   intro B10 S10 hl
   refine re_storeL hl 0 rfl rfl rfl rfl rfl rfl rfl (by kernel_rfl) (c':=s.cells) rfl ?_
   intro S11 hl
   refine zg ?_;refine rr rfl (rd_lookup rfl rfl rfl (lookup_of (kc:=Sg.v) (k:=s) (D:=Dn) Tryz.underlying74 (hl.get 2 rfl) eqSign (sg_ok s) rfl)) ?_
   rw[hn0]
   refine zg ?_
   constructor<;>intro h47
   ·
    have hs0:s∉U:=hn4.1 (by simpa using h47)
    refine zg ?_;refine rr rfl (rd_len rfl rfl (len_map_ (hl.get 2 rfl))) ?_
    have hDl:=hD.1
    refine zg ?_;refine re_mapUpdateL (kc:=Sg.v) hl 2 (k:=s) (D:=Dn) (v:= .int .i64 ((Dn.length:Int)+1)) rfl rfl rfl rfl rfl rfl rfl rfl Tryz.underlying74 eqSign (sg_ok s) rfl (sg_sm s) ?_;intro S12 hl
    have hl:HoldG S [S] S12 [(B10,.cells s.cells 55 false true []),(B8,.cells [.slice a1 x.signs.length c1,.bool x.blank] 49 false true []),(B29,mapB Sg.v (putA Dn s (.int .i64 ((Dn.length:Int)+1)))),(B1,.cells [.string nm,.slice a L.length cap] 24 false true [])] []:=hl
    refine zg ?_
    refine⟨x.signs.length-(k+1),by omega,k+1,_,U++[s],by omega,rfl,nm_put hD hs0,by rw[len_push];omega,fun y hy t ht=>List.mem_append.2 (.inl (hU y hy t ht)),fun t ht=>?_,⟨rfl,rfl,rfl,rfl,rfl,rfl,rfl,rfl,rfl,rfl,trivial⟩,hl.tail⟩
    rw[take_push hsn]at ht
    rcases List.mem_append.1 ht with h|h
    ·exact List.mem_append.2 (.inl (hUx t h))
    exact List.mem_append.2 (.inr h)
   have hs0:s∈U:=by
    have:n≠0:=by simpa using h47
    exact Classical.not_not.1 fun h=>this (hn4.2 h)
   refine zg ?_
   refine⟨x.signs.length-(k+1),by omega,k+1,Dn,U,by omega,rfl,hD,by omega,hU,fun t ht=>?_,⟨rfl,rfl,rfl,rfl,rfl,rfl,rfl,rfl,rfl,rfl,trivial⟩,hl.tail⟩
   rw[take_push hsn]at ht
   rcases List.mem_append.1 ht with h|h
   ·exact hUx t h
   rw[List.mem_singleton.1 h]
   exact hs0
  refine zg ?_
  refine⟨L.length-(i+1),by omega,i+1,Dn,U,by omega,rfl,hD,by omega,fun y hy t ht=>?_,⟨rfl,rfl,rfl,rfl,rfl,rfl,rfl,trivial⟩,hl.tail⟩
  rw[take_push hx]at hy
  rcases List.mem_append.1 hy with h|h
  ·exact hU y h t ht
  rw[List.mem_singleton.1 h]at ht
  exact hUx t (by rw[List.take_of_length_le (by have:=of_decide_eq_false h41;omega)];exact ht)
 have hUa:∀y,y∈L→∀s,s∈y.signs→s∈U:=by
  rw[List.take_of_length_le (by have:=of_decide_eq_false h34;omega)]at hU
  exact hU
 have hU7:U.length≤127:=by omega
 clear hU hUl hi hsub
 refine zg ?_;refine re_makeMapL hl kb rfl rfl rfl rfl rfl ?_;intro B55 S55 hl;refine zg ?_;refine re_makeSliceK hl rfl rfl rfl rfl rfl rfl rfl rfl rfl Tryz.underlying38 (z:= .int .i64 0) (by kernel_rfl) (by kernel_rfl) (by unfold maxNeed;omega) ?_;intro B59 S59 hl
 have hrow0:replL L.length (cellsL (Value.int .i64 0))=cR (dg L 0).1:=by
  show replL L.length [Value.int .i64 0]=_
  rw[repl_ic,cR,dg_zero]
  simp only[List.map_replicate]
  rfl
 rw[hrow0]at hl
 refine zg ?_;refine xp_label rfl ?_;refine xp_seq rfl ?_;refine xp_block rfl ?_;refine xe_sub (L':=[(13,.slice (some ⟨B59,0,none⟩) L.length L.length),(12,.slice none 0 0),(11,.map (some B55)),(6,.map (some B29)),(3,.int .i64 0),(2,.slice none 0 0),(1,ptrTo B1 0)]) ⟨rfl,rfl,rfl,rfl,rfl,rfl,rfl,trivial⟩ ?_
 refine xp_loop rfl (fun m Le S'=>∃(i:Nat) (av:Option Addr) (P:List Pr) (Dk:List (List UInt8×Value)) (fO:List (Nat×Blk)),i<prN L∧m=prN L-i∧P.length≤i∧OwPr nm (.slice av P.length P.length) P fO∧P.map Pr.C=ptsN nm.data.toList L i∧SnOk U Dk (P.map Pr.C) i∧(∀x,x∈P→x.Ok S')∧(∀x,x∈P→x.C.length≤1000)∧SubE [(13,.slice (some ⟨B59,0,none⟩) L.length L.length),(12,.slice av P.length P.length),(11,.map (some B55)),(6,.map (some B29)),(3,.int .i64 0),(2,.slice none 0 0),(1,ptrTo B1 0)] Le∧HoldG S [S] S' ((B59,.cells (cR (dg L i).1) 3 true true [])::(B55,mapB kb Dk)::(B29,mapB Sg.v Dn)::(B1,.cells [.string nm,.slice a L.length cap] 24 false true [])::(fO++[])) []) ?_ (m:=prN L) ⟨0,none,[],[],[],hpp,by omega,by simp,.inl ⟨rfl,rfl,rfl,rfl⟩,rfl,sn_nil U,fun x hx=>(List.not_mem_nil hx).elim,fun x hx=>(List.not_mem_nil hx).elim,⟨rfl,rfl,rfl,rfl,rfl,rfl,rfl,trivial⟩,hl⟩
 clear hl;rintro m Le Sx ⟨i,av,P,Dk,fO,hi,rfl,hPl,hOP,hPm,hSn,hPo,hPs,hsub,hl⟩;refine xe_sub hsub ?_
 have hdl:=dg_len L i
 have hrow:=hl.at_ B59 _ (List.mem_cons_self ..)
 have hw:Nums Sx (.slice (some ⟨B59,0,none⟩) ((dg L i).1.map nc).length ((dg L i).1.map nc).length) ((dg L i).1.map nc):=num_row ⟨hrow.2.2,true,[],hrow.1⟩ rfl
 have hmd:=spec42 (S:=Sx) nm a cap L (some ⟨B59,0,none⟩) ((dg L i).1.map nc).length (dg L i).1 hn hdl hs (hl.keep.3 hF) (hv.move (hl.since 0 rfl)) hw
 rw[List.length_map,hdl]at hmd
 refine zg ?_
 refine zc hl rfl hmd ?_;rintro v S3 hk3 ⟨ap,cp,rfl,hR⟩ hl
 have hPo:=fun x hx=>(hPo x hx).move (Keep.rk hk3)
 have hpl:=mk_len L (dg L i).1
 have hpU:∀s,s∈mk L (dg L i).1→s∈U:=fun s h=>by
  obtain⟨y,h1,h2⟩:=mk_mem h
  exact hUa y h1 s h2
 have hst:ptsN nm.data.toList L (i+1)=stepP nm.data.toList (P.map Pr.C) (mk L (dg L i).1):=by rw[hPm];rfl
 generalize mk L (dg L i).1=p at hR hpl hpU hst ⊢
 clear hrow hw hmd
 have hl:=hl.mark
 refine re_allocL hl rfl rfl rfl rfl rfl (z:=[.string ⟨#[]⟩,.slice none 0 0]) (by kernel_rfl) ?_
 intro B14 S14 hl
 refine re_storeL hl 0 rfl rfl rfl rfl rfl rfl rfl (by kernel_rfl) (c':=[.string nm,.slice ap p.length cp]) rfl ?_
 intro Sm hl
 have hPo:=fun x hx=>(hPo x hx).move (hl.since 0 rfl)
 have hR:=LsOf.move (hl.since 0 rfl) hR
 have hl:HoldG S [S] Sm ((B14,.cells [.string nm,.slice ap p.length cp] 44 false true [])::(B59,.cells (cR (dg L i).1) 3 true true [])::(B55,mapB kb Dk)::(B29,mapB Sg.v Dn)::(B1,.cells [.string nm,.slice a L.length cap] 24 false true [])::(fO++[])) []:=hl.marks (fun T hT=>List.mem_cons_of_mem _ hT)
 have hl0:=hl
 have h14:=hl.at_ B14 _ (List.mem_cons_self ..)
 have h29:=hl.at_ B29 (mapB Sg.v Dn) (List.mem_cons_of_mem _ (List.mem_cons_of_mem _ (List.mem_cons_of_mem _ (List.mem_cons_self ..))))
 have hd:At Sm B14 (.cells [.string nm,.slice ap p.length cp] 44 false true []):=⟨fun g=>(g.2 B14 h14.2.2).trans h14.1⟩
 have hd9:At Sm B29 (mapB Sg.v Dn):=⟨fun g=>(g.2 B29 h29.2.2).trans h29.1⟩
 have hFm:=hl.keep.3 hF
 clear hl
 have hl:=Hold.start Sm
 refine zg ?_;refine re_allocL hl rfl rfl rfl rfl rfl (z:=[.pointer none,.slice none 0 0]) (by kernel_rfl) ?_
 intro B15 S15 hl
 have hl:HoldG Sm [Sm] S15 ([(B15,.cells (bcl (.pointer none) none ([]:List Int).length) 80 false true [])]++([]++[])) []:=hl
 refine zA ?_;refine xp_seq rfl ?_;refine zS ?_;refine xp_block rfl ?_;refine xe_sub (L':=[(66,.int .i64 0),(65,.int .i64 p.length),(64,.slice ap p.length cp),(15,ptrTo B15 0),(14,ptrTo B14 0),(13,.slice (some ⟨B59,0,none⟩) L.length L.length),(12,.slice av P.length P.length),(11,.map (some B55)),(6,.map (some B29)),(3,.int .i64 0),(2,.slice none 0 0),(1,ptrTo B1 0)]) ⟨rfl,rfl,rfl,rfl,rfl,rfl,rfl,rfl,rfl,rfl,rfl,rfl,trivial⟩ ?_
 refine xp_loop rfl (fun m Le S'=>∃(k:Nat) (pa:Value) (a2:Option Addr) (E:List Int) (fb:List (Nat×Blk)),k≤p.length∧m=p.length-k∧E=(p.take k).map (kyN U)∧E.length=k∧(pa= .pointer none∨pa=ptrTo B15 0)∧(E.length=0→a2=none)∧OwU (.slice a2 E.length E.length) E fb∧SubE [(66,.int .i64 (k:Int)),(65,.int .i64 p.length),(64,.slice ap p.length cp),(15,ptrTo B15 0),(14,ptrTo B14 0),(13,.slice (some ⟨B59,0,none⟩) L.length L.length),(12,.slice av P.length P.length),(11,.map (some B55)),(6,.map (some B29)),(3,.int .i64 0),(2,.slice none 0 0),(1,ptrTo B1 0)] Le∧HoldG Sm [Sm] S' ([(B15,.cells (bcl pa a2 E.length) 80 false true [])]++(fb++[])) []) ?_ (m:=p.length) ⟨0,_,_,[],[],by omega,by omega,rfl,rfl,.inl rfl,fun _=>rfl,.inl ⟨rfl,rfl,rfl,rfl⟩,⟨rfl,rfl,rfl,rfl,rfl,rfl,rfl,rfl,rfl,rfl,rfl,rfl,trivial⟩,hl⟩
 clear hl hsub;rintro m Le Sk ⟨k,pa,a2,E,fb,hk,rfl,hE,hEl,hpa,ha2,hO,hsub,hl⟩;refine xe_sub hsub ?_
 refine zg ?_
 constructor<;>intro h67
 ·
  have hlt:k<p.length:=by have:=of_decide_eq_true h67;omega
  obtain⟨s,hsn⟩:=nth_some hlt
  have hsU:=hpU s (nth_mem hsn)
  have hkb:=ky_bd hsU
  have hRm:Sgs Sm (.slice ap p.length cp) p:=hR
  obtain⟨b1,o1,cs1,ha,_,hrow,htk⟩:=hRm.elem hsn
  refine zg ?_;refine re_allocL hl rfl rfl rfl rfl rfl (z:=[.int .i64 0,.int .i64 0,.int .i64 0,.int .i64 0,.bool false,.int .i64 0,.bool false,.bool false,.int .i64 0,.int .i64 0,.int .i64 0,.int .i64 0,.bool false,.int .i64 0,.int .i64 0,.int .i64 0,.int .i64 0]) (by kernel_rfl) ?_
  intro B17 S17 hl
  refine re_storeL hl 0 rfl rfl rfl rfl rfl rfl rfl (by kernel_rfl) (c':=s.cells) rfl ?_
  intro S18 hl
  refine zg ?_;refine rr rfl (rd_lookup rfl rfl rfl (lookup_of (kc:=Sg.v) (k:=s) (D:=Dn) Tryz.underlying74 (hd9.at_ hl.keep) eqSign (sg_ok s) rfl)) ?_
  rw[ky_get hD hsU]
  have hw32:IntKind.i32.wrap (kyN U s)=kyN U s:=by
   unfold IntKind.wrap
   simp[IntKind.bits,IntKind.signed]
   omega
  refine re_conv rfl rfl rfl rfl rfl (v:= .int .i32 (IntKind.i32.wrap (kyN U s))) (S':=S18) rfl rfl ?_
  rw[hw32]
  refine re_call rfl rfl rfl rfl rfl rfl rfl (cc_mono (spec43 Sm B15 pa a2 E fb (kyN U s) hpa (by omega) (by omega) (by omega) hO hl.tail) ?_);rintro v S19 ⟨kk1,a3,fb2,rfl,hO2,hl⟩
  refine zg ?_
  exact⟨p.length-(k+1),by omega,k+1,_,a3,E++[kyN U s],fb2,by omega,rfl,by rw[take_push hsn,List.map_append,hE];rfl,by rw[len_push];omega,.inr rfl,fun h=>by rw[len_push]at h;omega,hO2,⟨rfl,rfl,rfl,rfl,rfl,rfl,rfl,rfl,rfl,rfl,rfl,rfl,trivial⟩,hl⟩
 have hE2:E=p.map (kyN U):=by rw[hE,List.take_of_length_le (by have:=of_decide_eq_false h67;omega)]
 clear hE hsub hd9 h29
 refine xp_exit rfl ?_
 refine xp_seq rfl (xe_cut (fun Le S'=>∃(av:Option Addr) (P:List Pr) (Dk:List (List UInt8×Value)) (fO:List (Nat×Blk)),P.length≤i+1∧OwPr nm (.slice av P.length P.length) P fO∧P.map Pr.C=ptsN nm.data.toList L (i+1)∧SnOk U Dk (P.map Pr.C) ((i:Int)+1)∧(∀x,x∈P→x.Ok S')∧(∀x,x∈P→x.C.length≤1000)∧SubE [(13,.slice (some ⟨B59,0,none⟩) L.length L.length),(12,.slice av P.length P.length),(11,.map (some B55)),(6,.map (some B29)),(3,.int .i64 0),(2,.slice none 0 0),(1,ptrTo B1 0)] Le∧HoldG S [S] S' ((B14,.cells [.string nm,.slice ap p.length cp] 44 false true [])::(B59,.cells (cR (dg L i).1) 3 true true [])::(B55,mapB kb Dk)::(B29,mapB Sg.v Dn)::(B1,.cells [.string nm,.slice a L.length cap] 24 false true [])::(fO++[])) []) ?_ ?_)
 ·
  have hGm:Gl Sk:=hG.keep (hl0.keep.trans hl.keep)
  refine zg ?_
  refine zc hl rfl (spec44 nm ap cp p (by omega) hGm (LsOf.move (hl.since 0 rfl) hR)) ?_;rintro v S20 hk20 rfl hl
  refine zA ?_;refine xp_seq rfl (xe_toI 87 (fun v S'=>∃Dk2:List (List UInt8×Value),v= .bool (okP nm.data.toList p&&!decide (p∈P.map Pr.C))∧SnOk U Dk2 (stepP nm.data.toList (P.map Pr.C) p) ((i:Int)+1)∧(∀x,x∈P→x.Ok S')∧Sgs S' (.slice ap p.length cp) p∧HoldG S [S] S' ((B14,.cells [.string nm,.slice ap p.length cp] 44 false true [])::(B59,.cells (cR (dg L i).1) 3 true true [])::(B55,mapB kb Dk2)::(B29,mapB Sg.v Dn)::(B1,.cells [.string nm,.slice a L.length cap] 24 false true [])::(fO++[])) []) ?_ ?_)
  ·
   refine zg ?_;refine re_bool (d:=83) rfl (fun h83=>?_) (fun h83=>?_)
   ·
    have hok:okP nm.data.toList p=true:=h83
    refine zg ?_
    refine re_call rfl rfl rfl rfl rfl rfl rfl (cc_mono (spec46 Sm B15 pa a2 E fb (by omega) ha2 hO hl) ?_);rintro v S21 ⟨rfl,hks⟩
    have hPo:=fun x hx=>(hPo x hx).move (Keep.rk hks)
    have hR:=LsOf.move (Keep.rk hks) hR
    have hl:HoldG S [S] S21 ([(B14,.cells [.string nm,.slice ap p.length cp] 44 false true []),(B59,.cells (cR (dg L i).1) 3 true true [])]++(B55,mapB kb Dk)::((B29,mapB Sg.v Dn)::(B1,.cells [.string nm,.slice a L.length cap] 24 false true [])::(fO++[]))) []:=hl0.call hks
    have hl:=(hl.perm List.perm_middle).mark
    have hky:bsO E=kyP U p:=by rw[hE2];rfl
    refine re_call rfl rfl rfl rfl rfl rfl rfl (cc_mono (spec45 S [S21,S] _ _ B55 Dk (bsO E) (i:Int) (by omega) hSn.1 hl) ?_);rintro v S22 ⟨c,rfl,hc1,hc2,hl⟩
    have hPo:=fun x hx=>(hPo x hx).move (hl.since 0 rfl)
    have hR:=LsOf.move (hl.since 0 rfl) hR
    have hl:HoldG S [S] S22 ((B55,mapB kb (putA Dk (bsO E) (.int .i64 c)))::([(B14,.cells [.string nm,.slice ap p.length cp] 44 false true []),(B59,.cells (cR (dg L i).1) 3 true true [])]++((B29,mapB Sg.v Dn)::(B1,.cells [.string nm,.slice a L.length cap] 24 false true [])::(fO++[])))) []:=hl.marks (Us:=[S]) (fun T hT=>List.mem_cons_of_mem _ hT)
    have hl:=hl.perm List.perm_middle.symm
    have hl:HoldG S [S] S22 ((B14,.cells [.string nm,.slice ap p.length cp] 44 false true [])::(B59,.cells (cR (dg L i).1) 3 true true [])::(B55,mapB kb (putA Dk (bsO E) (.int .i64 c)))::(B29,mapB Sg.v Dn)::(B1,.cells [.string nm,.slice a L.length cap] 24 false true [])::(fO++[])) []:=hl
    have hsp:=sn_put hU7 hSn hpU (by omega) hc1 hc2
    rw[hky]at hl ⊢
    refine zg ?_
    refine⟨rfl,_,bl rfl,sB,_,by rw[hSn.2.2 p hpU,hok];rfl,?_,hPo,hR,hl⟩
    rw[stepP,hok]
    exact hsp
   have hok:okP nm.data.toList p=false:=h83
   have hks:=hl.keep
   have hl:HoldG S [S] S20 ((B14,.cells [.string nm,.slice ap p.length cp] 44 false true [])::(B59,.cells (cR (dg L i).1) 3 true true [])::(B55,mapB kb Dk)::(B29,mapB Sg.v Dn)::(B1,.cells [.string nm,.slice a L.length cap] 24 false true [])::(fO++[])) []:=hl0.call hks
   refine zg ?_
   refine⟨rfl,_,bl rfl,sB,Dk,by rw[hok];rfl,?_,fun x hx=>(hPo x hx).move (Keep.rk hks),LsOf.move (Keep.rk hks) hR,hl⟩
   rw[stepP,hok]
   exact sn_mono hSn
  clear hl hd hl0;rintro v S23 ⟨Dk2,rfl,hSn2,hPo,hR,hl⟩
  refine zg ?_
  constructor<;>intro h87
  ·
   obtain⟨y,hy⟩:∃y:Pr,y=⟨ap,cp,p⟩:=⟨_,rfl⟩
   have hyc:[Value.string nm,.slice ap p.length cp]=y.cells nm:=by rw[hy];rfl
   have hl:=hl.mark
   refine zg ?_;refine re_buildSliceR hl rfl rfl rfl rfl rfl Tryz.underlying33 rfl (c:=y.cells nm) (by rw[←hyc];kernel_rfl) ?_;intro B90 Sa hr90 hl
   have hl:HoldG S [S23,S] Sa ([(B14,.cells [.string nm,.slice ap p.length cp] 44 false true []),(B59,.cells (cR (dg L i).1) 3 true true []),(B55,mapB kb Dk2),(B29,mapB Sg.v Dn),(B1,.cells [.string nm,.slice a L.length cap] 24 false true [])]++(fO++[])) []:=hl
   refine re_appendW hl hOP rfl rfl rfl rfl rfl rfl rfl Tryz.underlying33 Tryz.underlying33 rfl rfl (by decide) (by kernel_rfl) (src_row_ (n:=1) (cap:=1) (new:=y.cells nm) hr90 rfl) rfl rfl (by kernel_rfl) (by show P.length+1≤maxNeed;unfold maxNeed;omega) ?_;intro v91 f2 Sb hOP2 hl
   obtain⟨av2,rfl⟩:=hOP2.is
   have hOP2:=pr_push hOP2
   have hmp:(P++[y]).map Pr.C=stepP nm.data.toList (P.map Pr.C) p:=by rw[List.map_append,stepP,h87,hy];rfl
   refine zg ?_
   refine⟨rfl,av2,P++[y],Dk2,f2,by rw[len_push];omega,hOP2,by rw[hst,hmp],by rw[hmp];exact hSn2,fun z hz=>?_,fun z hz=>?_,⟨rfl,by rw[len_push P y];rfl,rfl,rfl,rfl,rfl,rfl,trivial⟩,hl.marks (Us:=[S]) (fun T hT=>List.mem_cons_of_mem _ hT)⟩
   ·rcases List.mem_append.1 hz with h|h
    ·exact(hPo z h).move (hl.since 0 rfl)
    rw[List.mem_singleton.1 h,hy]
    exact LsOf.move (hl.since 0 rfl) hR
   rcases List.mem_append.1 hz with h|h
   ·exact hPs z h
   rw[List.mem_singleton.1 h,hy]
   show p.length≤1000
   omega
  have hmp:P.map Pr.C=stepP nm.data.toList (P.map Pr.C) p:=by rw[stepP,h87];rfl
  refine zg ?_
  exact⟨rfl,av,P,Dk2,fO,by omega,hOP,by rw[hst,←hmp],by rw[hmp];exact hSn2,hPo,hPs,⟨rfl,rfl,rfl,rfl,rfl,rfl,rfl,trivial⟩,hl⟩
 clear hl hl0 hd hPo hPs hSn hPm hPl hR hst hOP;rintro Le S24 ⟨av,P,Dk,fO,hPl,hOP,hPm,hSn,hPo,hPs,hsub,hl⟩;refine xe_sub hsub ?_
 refine xp_seq rfl ?_
 have hinc:=inc_facts hi (fun x hx=>(hsz x hx).1)
 have hl:HoldG S [S] S24 ((B59,.cells (cR (dg L i).1) 3 true true [])::(B55,mapB kb Dk)::(B29,mapB Sg.v Dn)::(B1,.cells [.string nm,.slice a L.length cap] 24 false true [])::(fO++[])) []:=hl.tail
 have hcb:=dg_bd (L:=L) (n:=i) hsz
 generalize (dg L i).1=cs at hl hdl hinc hcb
 have hw0:cs.take L.length++(incL (L.drop L.length) (cs.drop L.length)).1=cs:=by
  rw[List.drop_length,List.drop_eq_nil_of_le (by omega),List.take_of_length_le (by omega)]
  exact List.append_nil _
 have hc0:(incL (L.drop L.length) (cs.drop L.length)).2=true:=by
  rw[List.drop_length,List.drop_eq_nil_of_le (by omega)]
  rfl
 refine zS ?_;refine xp_block rfl ?_;refine xe_sub (L':=[(20,.int .i64 ((L.length:Int)-1)),(13,.slice (some ⟨B59,0,none⟩) L.length L.length),(12,.slice av P.length P.length),(11,.map (some B55)),(6,.map (some B29)),(3,.int .i64 0),(2,.slice none 0 0),(1,ptrTo B1 0)]) ⟨rfl,rfl,rfl,rfl,rfl,rfl,rfl,rfl,trivial⟩ ?_
 refine xp_loop rfl (fun m Le S'=>∃j:Nat,j≤L.length∧m=j∧(incL (L.drop j) (cs.drop j)).2=true∧(∀x,x∈P→x.Ok S')∧SubE [(20,.int .i64 ((j:Int)-1)),(13,.slice (some ⟨B59,0,none⟩) L.length L.length),(12,.slice av P.length P.length),(11,.map (some B55)),(6,.map (some B29)),(3,.int .i64 0),(2,.slice none 0 0),(1,ptrTo B1 0)] Le∧HoldG S [S] S' ((B59,.cells (cR (cs.take j++(incL (L.drop j) (cs.drop j)).1)) 3 true true [])::(B55,mapB kb Dk)::(B29,mapB Sg.v Dn)::(B1,.cells [.string nm,.slice a L.length cap] 24 false true [])::(fO++[])) []) ?_ (m:=L.length) ⟨L.length,by omega,rfl,hc0,hPo,⟨rfl,rfl,rfl,rfl,rfl,rfl,rfl,rfl,trivial⟩,by rw[hw0];exact hl⟩
 clear hl hPo hsub hw0 hc0;rintro m Le S' ⟨m,hj,rfl,hcar,hPo,hsub,hl⟩;refine xe_sub hsub ?_
 refine zg ?_
 constructor<;>intro h96
 ·
  obtain⟨j,rfl⟩:∃j,m=j+1:=⟨m-1,by have:=of_decide_eq_true h96;omega⟩
  have e1:((j+1:Nat):Int)-1=(j:Int):=by omega
  rw[e1]
  obtain⟨x,hx⟩:=nth_some (show j<L.length by omega)
  obtain⟨c,hcn⟩:=nth_some (show j<cs.length by omega)
  have hxs:=hs x (nth_mem hx)
  have hcc:=hcb c (nth_mem hcn)
  have hin:=inc_at hx hcn hcar
  have hQl:=inc_len (L.drop (j+1)) (cs.drop (j+1)) (by rw[List.length_drop,List.length_drop,hdl])
  rw[List.length_drop]at hQl
  generalize hQ:incL (L.drop (j+1)) (cs.drop (j+1))=Q at hin hQl hl hcar
  have hAl:(cs.take j).length=j:=by rw[List.length_take];omega
  have hW:cs.take (j+1)++Q.1=cs.take j++c::Q.1:=by rw[take_push hcn,List.append_assoc];rfl
  rw[hW]at hl
  have hset:∀u v:Nat,(cs.take j++u::Q.1).set j v=cs.take j++v::Q.1:=fun u v=>by
   have:=set_mid (cs.take j) u v Q.1
   rw[hAl]at this
   exact this
  have hlen:∀u:Nat,(cs.take j++u::Q.1).length=L.length:=fun u=>by rw[List.length_append,hAl,List.length_cons,hQl];omega
  have hnth:∀u:Nat,nth ((cs.take j++u::Q.1).map nc) j=some (u:Int):=fun u=>by
   rw[nth_eq,List.getElem?_map,List.getElem?_append_right (by omega),hAl,Nat.sub_self]
   rfl
  have hrow:=hl.at_ B59 _ (List.mem_cons_self ..)
  have hw:Nums S' (.slice (some ⟨B59,0,none⟩) ((cs.take j++c::Q.1).map nc).length ((cs.take j++c::Q.1).map nc).length) ((cs.take j++c::Q.1).map nc):=num_row ⟨hrow.2.2,true,[],hrow.1⟩ rfl
  rw[List.length_map,hlen]at hw
  obtain⟨b1,o1,cs1,ha,_,hrow1,htk⟩:=hw.elem (hnth c)
  refine zg ?_
  cases ha
  have e2:0+(j:Int).toNat*1=0+j:=by omega
  rw[e2]
  refine re_store rfl rfl rfl rfl rfl rfl (store_row (by kernel_rfl) (hl.get 0 rfl) (row_set (v:=c+1) (by rw[hlen];omega) (hset c (c+1)))) ?_
  have hPo2:=fun x hx=>ls_set (y:=Blk.cells (cR (cs.take j++(c+1)::Q.1)) 3 true true []) (hPo x hx) hrow.1 (by decide)
  have hl2:=hold_putE hl (k:=0) rfl (fun g hg=>(List.not_mem_nil hg).elim) (Blk.cells (cR (cs.take j++(c+1)::Q.1)) 3 true true [])
  clear hl hPo hw hrow1 htk hrow
  generalize S'.set B59 (Blk.cells (cR (cs.take j++(c+1)::Q.1)) 3 true true [])=S6 at hl2 hPo2 ⊢
  have hl:HoldG S [S] S6 ((B59,.cells (cR (cs.take j++(c+1)::Q.1)) 3 true true [])::(B55,mapB kb Dk)::(B29,mapB Sg.v Dn)::(B1,.cells [.string nm,.slice a L.length cap] 24 false true [])::(fO++[])) []:=hl2
  clear hl2
  have hrow:=hl.at_ B59 _ (List.mem_cons_self ..)
  have hw:Nums S6 (.slice (some ⟨B59,0,none⟩) ((cs.take j++(c+1)::Q.1).map nc).length ((cs.take j++(c+1)::Q.1).map nc).length) ((cs.take j++(c+1)::Q.1).map nc):=num_row ⟨hrow.2.2,true,[],hrow.1⟩ rfl
  rw[List.length_map,hlen]at hw
  have hl:=hl.mark
  obtain⟨b1,o1,cs1,ha,_,hrow1,htk⟩:=hw.elem (hnth (c+1))
  obtain⟨b2,o2,cs2,a1,c1,ha2,hrow2,htk2,hsg⟩:=hv.elem hx
  refine zg ?_;refine xp_draw (idx:=[0,1,2,3,4,5,6,7,8,9,10]) rfl (by kernel_rfl) (by kernel_rfl) ?_;refine zg ?_
  refine zp hl rfl (spec36 a1 x.signs.length c1 x.blank hxs) ?_;rintro v S7 hk7 hv1 hl;refine⟨zt,?_⟩
  have hv1:v= .int .i64 (sizeF x):=hv1
  rw[size_nat]at hv1
  subst hv1
  have hPo:=fun x hx=>LsOf.move (hl.since 0 rfl) (hPo2 x hx)
  have hl:HoldG S [S] S7 ((B59,.cells (cR (cs.take j++(c+1)::Q.1)) 3 true true [])::(B55,mapB kb Dk)::(B29,mapB Sg.v Dn)::(B1,.cells [.string nm,.slice a L.length cap] 24 false true [])::(fO++[])) []:=hl.marks (fun T hT=>List.mem_cons_of_mem _ hT)
  clear hrow hw ha hrow1 htk ha2 hrow2 htk2 hPo2
  refine zg ?_
  constructor<;>intro h115
  ·
   have hd1:decide (c+1<szN x)=true:=by have:=of_decide_eq_true h115;exact decide_eq_true (by omega)
   rw[hd1]at hin
   have hist:=inc_stop j L cs hdl (by rw[hin];rfl)
   have hi1:=hinc.2.1 (by rw[hist])
   have hcs:=hinc.2.2
   rw[hist,hin]at hcs
   have hcs:cs.take j++(c+1)::Q.1=(dg L (i+1)).1:=hcs
   rw[hcs]at hl
   have ei:((i+1:Nat):Int)=(i:Int)+1:=by omega
   refine zg ?_
   refine thn_ex (blk_out (by kernel_rfl) (thn_ex (round_ex (blk_out (by kernel_rfl) (thn_ex (blk_in (by kernel_rfl) ?_))))))
   exact⟨prN L-(i+1),by omega,i+1,av,P,Dk,fO,hi1,rfl,hPl,hOP,hPm,by rw[ei];exact hSn,hPo,hPs,⟨rfl,rfl,rfl,rfl,rfl,rfl,rfl,trivial⟩,hl⟩
  have hd1:decide (c+1<szN x)=false:=by have:=of_decide_eq_false h115;exact decide_eq_false (by omega)
  rw[hd1]at hin
  have hin:incL (L.drop j) (cs.drop j)=(0::Q.1,true):=hin
  have hrow:=hl.at_ B59 _ (List.mem_cons_self ..)
  refine zg ?_
  have e3:0+(j:Int).toNat*1=0+j:=by omega
  rw[e3]
  refine re_store rfl rfl rfl rfl rfl rfl (store_row (by kernel_rfl) (hl.get 0 rfl) (row_set (v:=0) (by rw[hlen];omega) (hset (c+1) 0))) ?_
  have hPo2:=fun x hx=>ls_set (y:=Blk.cells (cR (cs.take j++0::Q.1)) 3 true true []) (hPo x hx) hrow.1 (by decide)
  have hl2:=hold_putE hl (k:=0) rfl (fun g hg=>(List.not_mem_nil hg).elim) (Blk.cells (cR (cs.take j++0::Q.1)) 3 true true [])
  clear hl hPo hrow
  generalize S7.set B59 (Blk.cells (cR (cs.take j++0::Q.1)) 3 true true [])=S8 at hl2 hPo2 ⊢
  have hl:HoldG S [S] S8 ((B59,.cells (cR (cs.take j++0::Q.1)) 3 true true [])::(B55,mapB kb Dk)::(B29,mapB Sg.v Dn)::(B1,.cells [.string nm,.slice a L.length cap] 24 false true [])::(fO++[])) []:=hl2
  refine zg ?_
  exact⟨j,by omega,j,by omega,rfl,by rw[hin],hPo2,⟨rfl,rfl,rfl,rfl,rfl,rfl,rfl,rfl,trivial⟩,by rw[hin];exact hl⟩
 have hm0:m=0:=by have:=of_decide_eq_false h96;omega
 subst hm0
 rw[List.drop_zero,List.drop_zero]at hcar
 have hin:=hinc.1 hcar
 refine zg ?_
 exact scp_ret (y2 rfl rfl ⟨hl.keep,.inr ⟨h0,av,P,rfl,OW.at_ (f:=Pr.cells nm) (fun _=>rfl) hOP hl (fun q hq=>List.mem_cons_of_mem _ (List.mem_cons_of_mem _ (List.mem_cons_of_mem _ (List.mem_cons_of_mem _ (List.mem_append.2 (.inl hq)))))),hPo,by rw[←hin];exact hPm,by omega,hPs⟩⟩)
end Go.Proofs.YtmfphenhpkgidaaGreatDoor

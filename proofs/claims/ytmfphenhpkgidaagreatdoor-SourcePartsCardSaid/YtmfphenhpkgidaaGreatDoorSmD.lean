/-
  The reference: Expand.
-/
import Derived.Test.YtmfphenhpkgidaaGreatDoorSmC
import Derived.Test.YtmfphenhpkgidaaGreatDoorSmA
namespace Go.Proofs.YtmfphenhpkgidaaGreatDoor
open Go.Cm Go
set_option maxRecDepth 100000
variable{S:St}
theorem RowT.tlp{aw:Option Addr}{C:List Sg}{tl:List (Nat×Blk)}(h:RowT 55 aw C.length (C.map Sg.cells).flatten tl):TLp aw C tl:=by
 rcases h with ⟨B0,h1,h2,h3,h4⟩|⟨B,B0,h1,h2,h3⟩
 ·exact .inr ⟨B0,[],[],h3,by rw[h4,h2],fun _=>rfl⟩
 exact .inr ⟨B,[B0],_,h2,h3,fun _=>rfl⟩
theorem fst_at{C:List Sg}(hC:LigOk C){i:Nat}{p:Nat×Nat}(h:nth (prs C) i=some p):nth ((firstsN C C.length).map iv) (0+((i:Nat):Int).toNat*1)=some (.int .i64 (p.1:Int)):=by
 rw[Nat.zero_add,Nat.mul_one,prs_firsts hC,List.map_map]
 exact nth_map _ h
theorem snd_at{C:List Sg}(hC:LigOk C){i:Nat}{p:Nat×Nat}(h:nth (prs C) i=some p):nth ((lastsN C C.length).map iv) (0+((i:Nat):Int).toNat*1)=some (.int .i64 (p.2:Int)):=by
 rw[Nat.zero_add,Nat.mul_one,prs_lasts hC,List.map_map]
 exact nth_map _ h
theorem drop_nthP:∀{l:List (Nat×Nat)} {i:Nat} {x:Nat×Nat},nth l i=some x→l.drop i=x::l.drop (i+1)
 | [],_,_,h=>by cases h
 |y::l,0,x,h=>by cases h;rfl
 |y::l,i+1,x,h=>by simpa using drop_nthP (l:=l) (i:=i) h
def FLp(a1 a2:Option Addr)(C:List Sg)(fl:List (Nat×Blk)):Prop:=0<(prs C).length→∃b1 k1 b2 k2,a1=some ⟨b1,0,none⟩∧a2=some ⟨b2,0,none⟩∧fl= [(b1,.cells ((firstsN C C.length).map iv) 3 true true k1),(b2,.cells ((lastsN C C.length).map iv) 3 true true k2)]
theorem lig_rows{S S':St}{w1 w2:Value}{C:List Sg}(hk:Keep S S')(hC:LigOk C)(h1:GrowI S S' w1 (firstsN C C.length))(h2:GrowI S S' w2 (lastsN C C.length))(hA:Apart [gLi w1 (firstsN C C.length),gLi w2 (lastsN C C.length)]) :
  ∃a1 a2 fl,w1= .slice a1 (prs C).length (prs C).length∧w2= .slice a2 (prs C).length (prs C).length∧FLp a1 a2 C fl∧HoldG S [S] S' fl []:=by
 have e1:(firstsN C C.length).length=(prs C).length:=by rw[prs_firsts hC,List.length_map]
 have e2:(lastsN C C.length).length=(prs C).length:=by rw[prs_lasts hC,List.length_map]
 rcases Nat.eq_zero_or_pos (prs C).length with h0|h0
 ·obtain⟨a1,f1⟩:∃a1,w1= .slice a1 (firstsN C C.length).length (firstsN C C.length).length:=Grow.is h1
  obtain⟨a2,f2⟩:∃a2,w2= .slice a2 (lastsN C C.length).length (lastsN C C.length).length:=Grow.is h2
  rw[e1]at f1
  rw[e2]at f2
  exact⟨a1,a2,[],f1,f2,fun h=>by omega,(Hold.start S).call hk⟩
 rcases h1 with ⟨_,h,_⟩|⟨b1,k1,f1,f2,f3,f4,_⟩
 ·have:(prs C).length=0:=by rw[←e1,←List.length_map (f:=iv)];exact congrArg List.length h
  omega
 rcases h2 with ⟨_,h,_⟩|⟨b2,k2,g1,g2,g3,g4,_⟩
 ·have:(prs C).length=0:=by rw[←e2,←List.length_map (f:=iv)];exact congrArg List.length h
  omega
 have f1:w1= .slice (some ⟨b1,0,none⟩) (firstsN C C.length).length (firstsN C C.length).length:=f1
 have g1:w2= .slice (some ⟨b2,0,none⟩) (lastsN C C.length).length (lastsN C C.length).length:=g1
 have hne:b1≠b2:=by
  intro e
  subst e
  subst f1
  subst g1
  rcases hA 0 1 _ _ (by omega) rfl rfl with h|h
  ·cases h
  exact h rfl
 rw[e1]at f1
 rw[e2]at g1
 refine⟨_,_,_,f1,g1,fun _=>⟨b1,k1,b2,k2,rfl,rfl,rfl⟩,⟨hk,?_,fun b x hb=>?_,fun T hT=>by rw[List.mem_singleton.1 hT];exact hk.rk,fun g hg=>(List.not_mem_nil hg).elim⟩⟩
 ·exact List.nodup_cons.2 ⟨fun h=>hne (List.mem_singleton.1 h),List.nodup_cons.2 ⟨List.not_mem_nil,List.nodup_nil⟩⟩
 rcases List.mem_cons.1 hb with e|hb
 ·cases e;exact⟨f4,f2,f3⟩
 cases List.mem_singleton.1 hb;exact⟨g4,g2,g3⟩
noncomputable def c110:Code:=Tryz.f110.body.getD .skip
theorem spec110(nm:ByteArray)(a:Option Addr)(cap:Nat)(C:List Sg)(hnm:nm.data.toList.length≤1000)(hn:C.length≤1000)(hF:Fresh S)(hv:Signs S (.slice a C.length cap) C):CC Tryz.prog KK 110 [aggL [.string nm,.slice a C.length cap]] S (fun v S'=>Keep S S'∧ExpR nm.data.toList C v S'):=by
 refine cc_enter (c:=c110) (n:=96) Tryz.func110 rfl rfl rfl (by kernel_rfl) rfl rfl ?_
 have hl:=Hold.start S
 refine zg ?_;refine re_boxL hl rfl rfl rfl rfl rfl rfl ?_;intro B1 S1 hl;refine re_allocL hl rfl rfl rfl rfl rfl (z:=[.string ⟨#[]⟩,.slice none 0 0]) (by kernel_rfl) ?_;intro B2 S2 hl;refine zg ?_
 refine zc hl rfl (spec139 nm a cap C hnm hn (hv.move (hl.since 0 rfl))) ?_;have hl0:=hl;rintro v S1 hk1 ⟨w1,w2,rfl,hws⟩ hl
 refine zg ?_
 constructor<;>intro h20
 ·
  refine zg ?_;refine rr rfl (rd_build rfl rfl (v:=aggL [.string ⟨#[]⟩,.slice none 0 0]) (by rfl)) ?_;refine zg ?_;refine re_storeL hl 0 rfl rfl rfl rfl rfl rfl rfl (by kernel_rfl) rfl ?_;intro S1 hl;refine zg ?_
  refine thn_ret (done_ret (ress_cell rfl (loadN_of (z:=2) (by kernel_rfl) (by kernel_rfl) (hl.get 0 rfl) rfl) (ress_tmp rfl rfl)) ⟨hl.keep,exp_res (expE_err h20) rfl (signs_none _)⟩)
 refine zg ?_
 have h0:(partE nm.data.toList C).1=0:=by simpa using h20
 have hC:LigOk C:=ligOk h0
 have hex:=expE_ok h20
 obtain⟨hg1,hg2,hA⟩:=hws h0
 obtain⟨a1,a2,fl,rfl,rfl,hfl,hlf⟩:=lig_rows hk1 hC hg1 hg2 hA
 have hl:=hl0.join hlf
 refine xp_draw (idx:=[0,1,2,3,4,7,5,6,8]) rfl (by kernel_rfl) (by kernel_rfl) ?_;refine zg ?_;refine rp_buildSliceB hF hl (c:=[]) rfl rfl rfl rfl rfl Tryz.underlying42 rfl (by kernel_rfl) ?_;intro B25 S1 hl;refine zg ?_;refine rp_allocL hF hl rfl rfl rfl rfl rfl (z:=[.string ⟨#[]⟩,.slice none 0 0]) (by kernel_rfl) ?_;intro B7 S7 hl
 have hl:=hl.perm (List.Perm.swap _ _ _)
 have hv':=hv.move (hl.since 0 rfl)
 refine rp_appendS hl rfl rfl rfl rfl rfl rfl rfl Tryz.underlying42 Tryz.underlying42 rfl rfl (by kernel_rfl) hv'.cells (flat17 C) (flatCell C) (by kernel_rfl) (by unfold maxNeed;omega) ?_;intro aw tl S1 hT hl
 have hT:=RowT.tlp hT
 have hl:=hl.perm (l':=[(B7,.cells [.string ⟨#[]⟩,.slice none 0 0] 44 false true []),(B2,.cells [.string ⟨#[]⟩,.slice none 0 0] 44 false true []),(B1,.cells [.string nm,.slice a C.length cap] 44 false true [])]++(fl++tl)) ((List.perm_append_comm (l₁:=tl) (l₂:=[(B7,.cells [.string ⟨#[]⟩,.slice none 0 0] 44 false true []),(B2,.cells [.string ⟨#[]⟩,.slice none 0 0] 44 false true []),(B1,.cells [.string nm,.slice a C.length cap] 44 false true [])]++fl)).trans (List.Perm.of_eq (List.append_assoc [(B7,.cells [.string ⟨#[]⟩,.slice none 0 0] 44 false true []),(B2,.cells [.string ⟨#[]⟩,.slice none 0 0] 44 false true []),(B1,.cells [.string nm,.slice a C.length cap] 44 false true [])] fl tl)))
 refine⟨⟨stays_new rfl (hl.get 0 rfl) (sameL_atoms _ _ (by decide) (atoms_cons (atom_string _) (atoms_cons (atom_slice _ _ _) atoms_nil))),stays_no (by kernel_rfl),stays_no (by kernel_rfl),stays_load rfl rfl (load1_of (by kernel_rfl) (hl.get 2 rfl) rfl) (same_atom (atom_string _)) rfl,trivial⟩,?_⟩
 refine pr rfl (rd_build rfl rfl (v:=aggL [.string nm,.slice aw C.length C.length]) (by rfl)) ?_
 refine rp_storeL hl 0 rfl rfl rfl rfl rfl rfl rfl (by kernel_rfl) rfl ?_;intro S1 hl;refine⟨stays_all (by kernel_rfl),?_⟩
 refine zA ?_;refine xp_seq rfl ?_;refine zS ?_;refine xp_block rfl ?_
 -- LOOP
 refine xe_sub (L':=[(8,.int .i64 0),(7,ptrTo B7 0),(5,.slice a2 (prs C).length (prs C).length),(4,.slice a1 (prs C).length (prs C).length),(3,.int .i64 0),(2,ptrTo B2 0),(1,ptrTo B1 0)]) ⟨rfl,rfl,rfl,rfl,rfl,rfl,rfl,trivial⟩ ?_
 refine xp_loop rfl (fun m Le S'=>∃(i:Nat) (D:List Sg) (tl:List (Nat×Blk)),i≤(prs C).length∧m=(prs C).length-i∧D.length=C.length∧expL C ((prs C).drop i) D=expL C (prs C) C∧TLp aw D tl∧SubE [(8,.int .i64 (i:Int)),(7,ptrTo B7 0),(5,.slice a2 (prs C).length (prs C).length),(4,.slice a1 (prs C).length (prs C).length),(3,.int .i64 0),(2,ptrTo B2 0),(1,ptrTo B1 0)] Le∧HoldG S [S] S' ([(B7,.cells [.string nm,.slice aw C.length C.length] 44 false true []),(B2,.cells [.string ⟨#[]⟩,.slice none 0 0] 44 false true []),(B1,.cells [.string nm,.slice a C.length cap] 44 false true [])]++(fl++tl)) []) ?_ (m:=(prs C).length) ⟨0,C,tl,by omega,by omega,rfl,rfl,hT,⟨rfl,rfl,rfl,rfl,rfl,rfl,rfl,trivial⟩,hl⟩
 clear hl hT hl0 hlf;rintro m Le S' ⟨i,D,tl,hi,rfl,hD,hpr,hT,hsub,hl⟩;refine xe_sub hsub ?_
 refine zg ?_
 constructor<;>intro h33
 ·
  have hlt:i<(prs C).length:=by have:=of_decide_eq_true h33;omega
  obtain⟨p,hp⟩:=nth_some hlt
  obtain⟨hpl,hpC⟩:=prs_mem hC (nth_mem hp)
  have hpn:=prs_len hC
  rw[drop_nthP hp]at hpr
  obtain⟨b1,k1,b2,k2,ha1,ha2,rfl⟩:=hfl (by omega)
  obtain⟨b,ks,haw,rfl⟩:=hT.pos (by omega)
  obtain⟨b0,o,cs,ha,hrow,hall⟩:=hv.row (by omega)
  have hW:=segm_len hpC hpl
  refine zg ?_;refine xp_draw (idx:=[0,1,2,3,4,5,6,7,8,9,10,11,12,13,14,15,16,17,18,19]) rfl (by kernel_rfl) (by kernel_rfl) ?_;refine rp_buildSliceB hF hl (c:=[]) rfl rfl rfl rfl rfl Tryz.underlying42 rfl (by kernel_rfl) ?_;intro B37 S1 hl;refine zA ?_;refine pk rfl (rl hl 3 rfl rfl (by kernel_rfl) rfl rfl) ?_;refine zA ?_;refine pk rfl (rd_load rfl rfl (load1_of (by kernel_rfl) (hl.get 4 rfl) (fst_at hC hp))) ?_;refine zA ?_;refine pk rfl (rd_load rfl rfl (load1_of (by kernel_rfl) (hl.get 5 rfl) (snd_at hC hp))) ?_;refine zA ?_
  obtain⟨a3,cap3,hsl,hvs⟩:=(hv.move (hl.since 0 rfl)).mid hpl hpC rfl rfl
  refine pk rfl (rd_slice rfl rfl rfl rfl rfl hsl) ?_
  refine rp_appendS hl rfl rfl rfl rfl rfl rfl rfl Tryz.underlying42 Tryz.underlying42 rfl rfl (by kernel_rfl) hvs.cells (flat17 _) (flatCell _) (by kernel_rfl) (by unfold maxNeed;omega) ?_;intro a4 tl4 S1 hT4 hl;refine⟨stays_all (by kernel_rfl),?_⟩
  refine zp hl rfl (spec140 a4 _ (segm C p.1 p.2) (by omega) (hl.keep.3 hF) (TLp.signs (r:=[]) (RowT.tlp hT4) (hl.sub (List.sublist_append_left tl4 _)))) ?_;rintro v S2 hk2 ⟨w,rfl,hgw⟩ hl2;refine⟨stays_all (by kernel_rfl),?_⟩;have hl1:HoldG S [S] S1 ([(B7,.cells [.string nm,.slice aw C.length C.length] 44 false true []),(B2,.cells [.string ⟨#[]⟩,.slice none 0 0] 44 false true []),(B1,.cells [.string nm,.slice a C.length cap] 44 false true []),(b1,.cells ((firstsN C C.length).map iv) 3 true true k1),(b2,.cells ((lastsN C C.length).map iv) 3 true true k2)]++((b,.cells (D.map Sg.cells).flatten 55 true true ks)::deadL 55 ks)) []:=hl.sub (List.sublist_append_right tl4 _);have hl:HoldG S [S] S2 ([(B7,.cells [.string nm,.slice aw C.length C.length] 44 false true []),(B2,.cells [.string ⟨#[]⟩,.slice none 0 0] 44 false true []),(B1,.cells [.string nm,.slice a C.length cap] 44 false true []),(b1,.cells ((firstsN C C.length).map iv) 3 true true k1),(b2,.cells ((lastsN C C.length).map iv) 3 true true k2)]++((b,.cells (D.map Sg.cells).flatten 55 true true ks)::deadL 55 ks)) []:=hl2.sub (List.sublist_append_right tl4 _)
  refine zg ?_
  constructor<;>intro h55
  ·
   refine zg ?_;refine rr rfl (rd_build rfl rfl (v:=aggL [.string ⟨#[]⟩,.slice none 0 0]) (by rfl)) ?_;refine zg ?_;refine re_storeL hl 1 rfl rfl rfl rfl rfl rfl rfl (by kernel_rfl) rfl ?_;intro S1 hl;refine zg ?_
   refine thn_ret (blk_ret (thn_ret (round_ret (blk_ret (thn_ret (done_ret (ress_cell rfl (loadN_of (z:=2) (by kernel_rfl) (by kernel_rfl) (hl.get 1 rfl) rfl) (ress_tmp rfl rfl)) ⟨hl.keep,exp_res (by rw[hex,←hpr,expL_err (p:=p) h55]) rfl (signs_none _)⟩))))))
  rw[h55]at hgw
  obtain⟨vb,vkin,ew,hlw⟩:=GrowI.own hk2 hgw (by show 0<(ligValues (segm C p.1 p.2)).length;rw[ligValues_len];omega)
  have ew:w= .slice (some ⟨vb,0,none⟩) (segm C p.1 p.2).length (segm C p.1 p.2).length:=by rw[←ligValues_len (segm C p.1 p.2)];exact ew
  subst ew
  have hl:=(hl1.join hlw).perm (l':=[(B7,.cells [.string nm,.slice aw C.length C.length] 44 false true []),(B2,.cells [.string ⟨#[]⟩,.slice none 0 0] 44 false true []),(B1,.cells [.string nm,.slice a C.length cap] 44 false true []),(b1,.cells ((firstsN C C.length).map iv) 3 true true k1),(b2,.cells ((lastsN C C.length).map iv) 3 true true k2),(vb,.cells ((ligValues (segm C p.1 p.2)).map iv) 3 true true vkin)]++((b,.cells (D.map Sg.cells).flatten 55 true true ks)::deadL 55 ks)) (by rw[List.append_assoc];exact List.Perm.append_left _ List.perm_append_comm)
  refine xp_skip rfl ?_;refine zS ?_;refine rr rfl (rd_load rfl rfl (load1_of (by kernel_rfl) (hl.get 3 rfl) (fst_at hC hp))) ?_;refine zA ?_;refine xp_block rfl ?_
  -- LOOP
  refine xe_sub (L':=[(11,.int .i64 ((p.1:Int)+((0:Nat):Int))),(9,.slice (some ⟨vb,0,none⟩) (segm C p.1 p.2).length (segm C p.1 p.2).length),(8,.int .i64 (i:Int)),(7,ptrTo B7 0),(5,.slice a2 (prs C).length (prs C).length),(4,.slice a1 (prs C).length (prs C).length),(3,.int .i64 0),(2,ptrTo B2 0),(1,ptrTo B1 0)]) ⟨rfl,rfl,rfl,rfl,rfl,rfl,rfl,rfl,rfl,trivial⟩ ?_
  refine xp_loop rfl (fun m Le S'=>∃(j:Nat) (E:List Sg) (ks:List Nat),j≤(segm C p.1 p.2).length∧m=(segm C p.1 p.2).length-j∧E.length=C.length∧putN C (segm C p.1 p.2) p.1 ((segm C p.1 p.2).length-j) j E=putN C (segm C p.1 p.2) p.1 (segm C p.1 p.2).length 0 D∧SubE [(11,.int .i64 ((p.1:Int)+(j:Int))),(9,.slice (some ⟨vb,0,none⟩) (segm C p.1 p.2).length (segm C p.1 p.2).length),(8,.int .i64 (i:Int)),(7,ptrTo B7 0),(5,.slice a2 (prs C).length (prs C).length),(4,.slice a1 (prs C).length (prs C).length),(3,.int .i64 0),(2,ptrTo B2 0),(1,ptrTo B1 0)] Le∧HoldG S [S] S' ([(B7,.cells [.string nm,.slice aw C.length C.length] 44 false true []),(B2,.cells [.string ⟨#[]⟩,.slice none 0 0] 44 false true []),(B1,.cells [.string nm,.slice a C.length cap] 44 false true []),(b1,.cells ((firstsN C C.length).map iv) 3 true true k1),(b2,.cells ((lastsN C C.length).map iv) 3 true true k2),(vb,.cells ((ligValues (segm C p.1 p.2)).map iv) 3 true true vkin)]++((b,.cells (E.map Sg.cells).flatten 55 true true ks)::deadL 55 ks)) []) ?_ (m:=(segm C p.1 p.2).length) ⟨0,D,ks,by omega,by omega,hD,by rw[Nat.sub_zero],⟨rfl,rfl,rfl,rfl,rfl,rfl,rfl,rfl,rfl,trivial⟩,hl⟩
  clear hl;rintro m Le S' ⟨j,E,ks2,hj,rfl,hE,hput,hsub,hl⟩;refine xe_sub hsub ?_
  refine xp_seq rfl ?_;refine zS ?_;refine rr rfl (rd_load rfl rfl (load1_of (by kernel_rfl) (hl.get 4 rfl) (snd_at hC hp))) ?_;refine zA ?_;refine zi tt rfl ?_
  constructor<;>intro h67
  ·
   have hjl:j<(segm C p.1 p.2).length:=by have:=of_decide_eq_true h67;omega
   refine xp_skip rfl ?_;refine xp_seq rfl ?_;refine xp_block rfl ?_;refine zS ?_;refine rr rfl (rl hl 2 rfl rfl (by kernel_rfl) rfl rfl) ?_;refine zA ?_;refine rr rfl (rd_load rfl rfl (loadN_row (z:=17) (by kernel_rfl) (by kernel_rfl) (row_move (hl.since 0 rfl) hrow) (hall ((p.1:Int)+(j:Int)) (by omega) (by omega)))) ?_
   refine re_allocL hl rfl rfl rfl rfl rfl (z:=[.int .i64 0,.int .i64 0,.int .i64 0,.int .i64 0,.bool false,.int .i64 0,.bool false,.bool false,.int .i64 0,.int .i64 0,.int .i64 0,.int .i64 0,.bool false,.int .i64 0,.int .i64 0,.int .i64 0,.int .i64 0]) (by kernel_rfl) ?_;intro B12 S12 hl;refine re_storeL hl 0 rfl rfl rfl rfl rfl rfl rfl (by kernel_rfl) rfl ?_;intro S1 hl;refine zg ?_;refine xp_draw (idx:=[0,1,2,3,4,5,6,7,8,9,10,11,12,13,14,15,16,17,18,19,20]) rfl (by kernel_rfl) (by kernel_rfl) ?_;refine zA ?_
   refine pk rfl (rl hl 1 rfl rfl (by kernel_rfl) rfl rfl) ?_;refine zA ?_;refine pk rfl (rd_load rfl rfl (load1_of (by kernel_rfl) (hl.get 4 rfl) (fst_at hC hp))) ?_;refine pr rfl (rd_bin rfl rfl rfl (congrArg some (congrArg (Value.int .i64) ((IntWalk.i64_in _ (by omega)).trans (show(p.1:Int)+(j:Int)-(p.1:Int)=(j:Int) by omega))))) ?_;refine pr rfl (rd_indexAddr rfl rfl rfl (indexAddr_slice (z:=1) Tryz.underlying38 (by kernel_rfl) ⟨by omega,by omega⟩)) ?_;refine pk rfl (rd_load rfl rfl (load1_of (by kernel_rfl) (hl.get 6 rfl) (vals_at hjl))) ?_;refine zA ?_
   refine pk rfl (rl hl 0 rfl rfl (by kernel_rfl) rfl rfl) ?_;refine zA ?_;refine pk rfl (rl hl 0 rfl rfl (by kernel_rfl) rfl rfl) ?_;refine zA ?_;refine pk rfl (rl hl 0 rfl rfl (by kernel_rfl) rfl rfl) ?_;refine pr rfl (rd_build rfl rfl (v:=(noteV (sgI C ((p.1:Int)+(j:Int))) (ligValue (segm C p.1 p.2) (j:Nat))).v) (by rfl)) ?_;refine zg ?_
   refine rp_storeT ((B12,.cells (sgI C ((p.1:Int)+(j:Int))).cells 55 false true [])::[(B7,.cells [.string nm,.slice aw C.length C.length] 44 false true []),(B2,.cells [.string ⟨#[]⟩,.slice none 0 0] 44 false true []),(B1,.cells [.string nm,.slice a C.length cap] 44 false true []),(b1,.cells ((firstsN C C.length).map iv) 3 true true k1),(b2,.cells ((lastsN C C.length).map iv) 3 true true k2),(vb,.cells ((ligValues (segm C p.1 p.2)).map iv) 3 true true vkin)]) hl rfl rfl rfl rfl rfl rfl (by kernel_rfl) (set_sign (noteV (sgI C ((p.1:Int)+(j:Int))) (ligValue (segm C p.1 p.2) (j:Nat))) (i:=p.1+j) (by omega) (by omega)) ?_;intro S1 hl;refine⟨stays_all (by kernel_rfl),?_⟩
   refine zg ?_
   refine⟨(segm C p.1 p.2).length-(j+1),by omega,j+1,E.set (p.1+j) (noteV (sgI C ((p.1:Int)+(j:Int))) (ligValue (segm C p.1 p.2) (j:Nat))),[],by omega,rfl,by rw[List.length_set];exact hE,?_,⟨rfl,rfl,rfl,rfl,rfl,rfl,rfl,rfl,rfl,trivial⟩,hl.tail⟩
   rw[←hput,show(segm C p.1 p.2).length-j=((segm C p.1 p.2).length-(j+1))+1 by omega];rfl
  refine zg ?_
  have hj2:j=(segm C p.1 p.2).length:=by have:=of_decide_eq_false h67;omega
  rw[hj2,Nat.sub_self]at hput
  have hput:E=putN C (segm C p.1 p.2) p.1 (segm C p.1 p.2).length 0 D:=hput
  have hl:=hl.sub (List.Sublist.append_left (l₁:=(b,.cells (E.map Sg.cells).flatten 55 true true ks2)::deadL 55 ks2) (List.sublist_cons_self (vb,.cells ((ligValues (segm C p.1 p.2)).map iv) 3 true true vkin) _) ([(B7,.cells [.string nm,.slice aw C.length C.length] 44 false true []),(B2,.cells [.string ⟨#[]⟩,.slice none 0 0] 44 false true []),(B1,.cells [.string nm,.slice a C.length cap] 44 false true []),(b1,.cells ((firstsN C C.length).map iv) 3 true true k1),(b2,.cells ((lastsN C C.length).map iv) 3 true true k2)]))
  refine⟨(prs C).length-(i+1),by omega,i+1,E,_,by omega,rfl,hE,?_,.inr ⟨b,ks2,_,haw,rfl,fun _=>rfl⟩,⟨rfl,rfl,rfl,rfl,rfl,rfl,rfl,trivial⟩,hl⟩
  rw[←hpr,expL_go (p:=p) h55,hput,hW]
 refine zg ?_;refine re_storeL hl 1 rfl rfl rfl rfl rfl rfl rfl (by kernel_rfl) rfl ?_;intro S1 hl;refine zg ?_
 refine done_ret (ress_cell rfl (loadN_of (z:=2) (by kernel_rfl) (by kernel_rfl) (hl.get 1 rfl) rfl) (ress_tmp rfl rfl)) ⟨hl.keep,exp_res (X:=D) (by rw[hex,←hpr,show i=(prs C).length by have:=of_decide_eq_false h33;omega,List.drop_length];rfl) hD.symm (by rw[hD];have:=hT.signs (r:=[(B7,.cells [.string nm,.slice aw C.length C.length] 44 false true []),(B2,.cells [.string nm,.slice aw C.length C.length] 44 false true []),(B1,.cells [.string nm,.slice a C.length cap] 44 false true [])]++fl) (by rw[List.append_assoc];exact hl);rwa [hD]at this)⟩
end Go.Proofs.YtmfphenhpkgidaaGreatDoor
namespace Go.Proofs.YtmfphenhpkgidaaGreatDoor
open Go.Cm Go
set_option maxRecDepth 100000
variable{S:St}
def gI(a b:Int):Int:=((Nat.gcd a.toNat b.toNat:Nat):Int)
theorem gI_zero{a:Int}(h:0≤a):gI a 0=a:=by
 unfold gI
 rw[show(0:Int).toNat=0 from rfl,Nat.gcd_zero_right]
 omega
theorem gI_step{a b:Int}(ha:0≤a)(hb:0<b):gI b (a.tmod b)=gI a b:=by
 unfold gI
 rw[Int.tmod_eq_emod_of_nonneg ha,Int.toNat_emod ha (by omega),Nat.gcd_comm a.toNat,Nat.gcd_rec b.toNat a.toNat,Nat.gcd_comm]
theorem gI_pos{a b:Int}(hb:0<b):0<gI a b:=by
 unfold gI
 have:=Nat.gcd_pos_of_pos_right a.toNat (n:=b.toNat) (by omega)
 omega
theorem gI_le{a b:Int}(hb:0<b):gI a b≤b:=by
 unfold gI
 have:=Nat.gcd_le_right a.toNat (n:=b.toNat) (by omega)
 omega
theorem quo_pos{a b:Int}(hb:0<b)(h:b≤a):1≤a.tdiv b:=by
 rw[Int.tdiv_eq_ediv_of_nonneg (by omega)]
 exact(Int.le_ediv_iff_mul_le hb).2 (by omega)
def VT(t:Ti):Prop:=0≤t.n∧t.n≤1099511627776∧1≤t.d∧t.d≤1048576
theorem mul_bd{a b:Int}{m n:Int}(h0:0≤a)(h1:a≤m)(h2:0≤b)(h3:b≤n):0≤a*b∧a*b≤m*n :=
 ⟨Int.mul_nonneg h0 h2,Int.mul_le_mul h1 h3 h2 (by omega)⟩
def TmR(v:Value):Prop:= ∃(t:Ti) (e:Int),v=tupV [t.v,.int .i64 e]∧(e=0→VT t)
noncomputable def cd276:Code:=Tryz.f276.body.getD .skip
theorem spec276(a b:Int)(ha:0≤a)(hb:0≤b)(ha2:a≤9223372036854775807)(hb2:b≤9223372036854775807):CC Tryz.prog KK 276 [.int .i64 a,.int .i64 b] S (fun v S'=>Keep S S'∧(v= .int .i64 (gI a b))):=by
 refine cc_enter (c:=cd276) (n:=14) Tryz.func276 rfl rfl rfl (by kernel_rfl) rfl rfl ?_
 have hl:=Hold.start S
 refine zg ?_;refine xe_sub (L':=[(4,.int .i64 0),(0,.int .i64 a),(1,.int .i64 b)]) ⟨rfl,rfl,rfl,trivial⟩ ?_
 refine xp_loop rfl (fun m Le S'=>∃x y:Int,(0≤x∧0≤y∧x≤9223372036854775807∧y≤9223372036854775807)∧m=y.toNat∧gI x y=gI a b∧SubE [(4,.int .i64 0),(0,.int .i64 x),(1,.int .i64 y)] Le∧Hold S [S] S' []) ?_ (m:=b.toNat) ⟨a,b,⟨ha,hb,ha2,hb2⟩,rfl,rfl,⟨rfl,rfl,rfl,trivial⟩,hl⟩
 clear hl;rintro m Le S' ⟨x,y,hxy,rfl,hin,hsub,hl⟩;refine xe_sub hsub ?_
 refine zg ?_
 constructor<;>intro h7
 ·
  have hy:0<y:=by have:=of_decide_eq_true h7;omega
  have hr:=rem_bd (a:=x) hy hxy.1
  refine zg ?_
  exact⟨(x.tmod y).toNat,by omega,y,x.tmod y,⟨by omega,by omega,by omega,by omega⟩,rfl,(gI_step hxy.1 hy).trans hin,⟨rfl,rfl,rfl,trivial⟩,hl.tail⟩
 have hy:y=0:=by have:=of_decide_eq_false h7;omega
 subst hy
 rw[gI_zero hxy.1]at hin
 refine zg ?_
 refine y1 rfl ⟨hl.keep,congrArg (Value.int .i64) hin⟩
def tB(t:Ti):Bool:=decide (t.n<0)||(decide (t.n>1099511627776)||(decide (t.d<1)||decide (t.d>1048576)))
theorem tB_ok{t:Ti}(h:tB t=false):VT t:=by
 unfold tB at h
 simp only[Bool.or_eq_false_iff,decide_eq_false_iff_not]at h
 unfold VT
 omega
noncomputable def cd275:Code:=Tryz.f275.body.getD .skip
theorem spec275(t:Ti):CC Tryz.prog KK 275 [t.v] S (fun v S'=>Keep S S'∧(∃e:Int,v= .int .i64 e∧(e=0→VT t))):=by
 refine cc_enter (c:=cd275) (n:=27) Tryz.func275 rfl rfl rfl (by kernel_rfl) rfl rfl ?_
 have hl:=Hold.start S
 refine zg ?_;refine re_boxL hl rfl rfl rfl rfl rfl rfl ?_
 intro B1 S1 hl
 refine zA ?_;refine xp_seq rfl ?_;refine xp_seq rfl (xe_toE hl 20 (.bool (tB t)) ?_ rfl ?_)
 ·
  refine zg ?_;refine re_bool (d:=6) rfl (fun h6=>?_) (fun h6=>?_)
  ·
   refine zg ?_
   exact⟨rfl,bl (by unfold tB;rw[h6];rfl),sB,hl⟩
  refine zg ?_;refine re_bool (d:=11) rfl (fun h11=>?_) (fun h11=>?_)
  ·
   refine zg ?_
   exact⟨rfl,bl (by unfold tB;rw[h6,h11];rfl),sB,hl⟩
  refine zg ?_;refine re_bool (d:=16) rfl (fun h16=>?_) (fun h16=>?_)
  ·
   refine zg ?_
   exact⟨rfl,bl (by unfold tB;rw[h6,h11,h16];rfl),sB,hl⟩
  refine zg ?_
  exact⟨rfl,bl (by unfold tB;rw[h6,h11,h16];rfl),sB,hl⟩
 intro S1 hl
 refine zg ?_
 constructor<;>intro h20
 ·
  refine zg ?_
  exact(z1 rfl ⟨hl.keep,_,rfl,by omega⟩)
 have hb:=tB_ok h20
 refine zg ?_
 refine zc hl rfl (spec276 t.n t.d hb.1 (by have:=hb.2.2;omega) (by have:=hb.2.1;omega) (by have:=hb.2.2.2;omega)) ?_;rintro v S1 hk1 rfl hl
 refine zg ?_
 constructor<;>intro h26
 ·
  refine zg ?_
  exact(z1 rfl ⟨hl.keep,_,rfl,by omega⟩)
 refine zg ?_
 refine y1 rfl ⟨hl.keep,0,rfl,fun _=>hb⟩
noncomputable def cd316:Code:=Tryz.f316.body.getD .skip
theorem spec316(n d:Int)(hn:0≤n)(hd:1≤d)(hn2:n≤9223372036854775807)(hd2:d≤9223372036854775807):CC Tryz.prog KK 316 [.int .i64 n,.int .i64 d] S (fun v S'=>Keep S S'∧(TmR v)):=by
 refine cc_enter (c:=cd316) (n:=26) Tryz.func316 rfl rfl rfl (by kernel_rfl) rfl rfl ?_
 have hl:=Hold.start S
 have hg:=gI_pos (a:=n) (b:=d) (by omega)
 have hg2:=gI_le (a:=n) (b:=d) (by omega)
 have hq1:=quo_bd (a:=n) hg hn
 have hq2:=quo_bd (a:=d) hg (by omega)
 have hq3:=quo_pos hg hg2
 refine zg ?_;refine re_allocL hl rfl rfl rfl rfl rfl (z:=[.int .i64 0,.int .i64 0]) (by kernel_rfl) ?_
 intro B4 S4 hl
 refine zg ?_
 refine zc hl rfl (spec276 n d hn (by omega) hn2 hd2) ?_;rintro v S1 hk1 rfl hl
 generalize gI n d=g at *
 refine zA ?_;iterate 2 refine zS ?_
 refine xp_seq rfl ?_;refine xp_seq rfl (xe_toE hl 21 (.bool (decide (n.tdiv g>1099511627776)||decide (d.tdiv g>1048576))) ?_ rfl ?_)
 ·
  refine zg ?_;refine re_bool (d:=18) rfl (fun h18=>?_) (fun h18=>?_)
  ·
   refine zg ?_
   exact⟨rfl,bl (by rw[h18];rfl),sB,hl⟩
  refine zg ?_
  exact⟨rfl,bl (by rw[h18];rfl),sB,hl⟩
 intro S1 hl
 refine zg ?_
 constructor<;>intro h21
 ·
  refine zg ?_;refine rr rfl (rd_build rfl rfl (v:=aggL [.int .i64 0,.int .i64 0]) (by rfl)) ?_;refine re_storeL hl 0 rfl rfl rfl rfl rfl rfl rfl (by kernel_rfl) (c':=[.int .i64 0,.int .i64 0]) rfl ?_
  intro S1 hl
  refine zg ?_
  exact thn_ret (done_ret (ress_cell rfl (lN (z:=2) (hl.get 0 rfl) rfl) (ress_tmp rfl rfl)) ⟨hl.keep,⟨0,0⟩,_,rfl,by omega⟩)
 refine zg ?_;refine rr rfl (rd_build rfl rfl (v:=aggL [.int .i64 (n.tdiv g),.int .i64 (d.tdiv g)]) (by rfl)) ?_;refine re_storeL hl 0 rfl rfl rfl rfl rfl rfl rfl (by kernel_rfl) (c':=[.int .i64 (n.tdiv g),.int .i64 (d.tdiv g)]) rfl ?_
 intro S1 hl
 refine zg ?_
 simp only[Bool.or_eq_false_iff,decide_eq_false_iff_not]at h21
 exact done_ret (ress_cell rfl (lN (z:=2) (hl.get 0 rfl) rfl) (ress_tmp rfl rfl)) ⟨hl.keep,⟨n.tdiv g,d.tdiv g⟩,0,rfl,fun _=>⟨hq1.1,by show n.tdiv g≤_;omega,hq3,by show d.tdiv g≤_;omega⟩⟩
noncomputable def cd225:Code:=Tryz.f225.body.getD .skip
theorem spec225(a b:Ti):CC Tryz.prog KK 225 [a.v,b.v] S (fun v S'=>Keep S S'∧(∃e:Int,v= .int .i64 e∧(e=0→VT a∧VT b))):=by
 refine cc_enter (c:=cd225) (n:=13) Tryz.func225 rfl rfl rfl (by kernel_rfl) rfl rfl ?_
 have hl:=Hold.start S
 refine zg ?_;refine re_boxL hl rfl rfl rfl rfl rfl rfl ?_
 intro B2 S2 hl
 refine re_boxL hl rfl rfl rfl rfl rfl rfl ?_
 intro B3 S3 hl
 refine zg ?_
 refine zc hl rfl (spec275 a) ?_;rintro v S1 hk1 ⟨e,rfl,he⟩ hl
 refine zg ?_
 constructor<;>intro h9
 ·
  refine zg ?_
  exact(z1 rfl ⟨hl.keep,e,rfl,fun h=>by rw[h]at h9;cases h9⟩)
 have e0:e=0:=by simpa using h9
 refine zg ?_
 refine zc hl rfl (spec275 b) ?_;rintro v S1 hk1 ⟨e2,rfl,he2⟩ hl
 refine zg ?_
 refine y1 rfl ⟨hl.keep,e2,rfl,fun h=>⟨he e0,he2 h⟩⟩
noncomputable def cd315:Code:=Tryz.f315.body.getD .skip
theorem spec315(n d:Int)(hn2:n≤9223372036854775807)(hd2:d≤9223372036854775807):CC Tryz.prog KK 315 [.int .i64 n,.int .i64 d] S (fun v S'=>Keep S S'∧(TmR v)):=by
 refine cc_enter (c:=cd315) (n:=21) Tryz.func315 rfl rfl rfl (by kernel_rfl) rfl rfl ?_
 have hl:=Hold.start S
 refine zg ?_;refine re_allocL hl rfl rfl rfl rfl rfl (z:=[.int .i64 0,.int .i64 0]) (by kernel_rfl) ?_
 intro B4 S4 hl
 refine zA ?_;refine xp_seq rfl ?_;refine xp_seq rfl (xe_toE hl 11 (.bool (decide (n<0)||decide (d<0))) ?_ rfl ?_)
 ·
  refine zg ?_;refine re_bool (d:=8) rfl (fun h8=>?_) (fun h8=>?_)
  ·
   refine zg ?_
   exact⟨rfl,bl (by rw[h8];rfl),sB,hl⟩
  refine zg ?_
  exact⟨rfl,bl (by rw[h8];rfl),sB,hl⟩
 intro S1 hl
 refine zg ?_
 constructor<;>intro h11
 ·
  refine zg ?_;refine rr rfl (rd_build rfl rfl (v:=aggL [.int .i64 0,.int .i64 0]) (by rfl)) ?_;refine re_storeL hl 0 rfl rfl rfl rfl rfl rfl rfl (by kernel_rfl) (c':=[.int .i64 0,.int .i64 0]) rfl ?_
  intro S1 hl
  refine zg ?_
  exact thn_ret (done_ret (ress_cell rfl (lN (z:=2) (hl.get 0 rfl) rfl) (ress_tmp rfl rfl)) ⟨hl.keep,⟨0,0⟩,_,rfl,by omega⟩)
 simp only[Bool.or_eq_false_iff,decide_eq_false_iff_not]at h11
 refine zg ?_
 constructor<;>intro h14
 ·
  refine zg ?_;refine rr rfl (rd_build rfl rfl (v:=aggL [.int .i64 0,.int .i64 0]) (by rfl)) ?_;refine re_storeL hl 0 rfl rfl rfl rfl rfl rfl rfl (by kernel_rfl) (c':=[.int .i64 0,.int .i64 0]) rfl ?_
  intro S1 hl
  refine zg ?_
  exact thn_ret (done_ret (ress_cell rfl (lN (z:=2) (hl.get 0 rfl) rfl) (ress_tmp rfl rfl)) ⟨hl.keep,⟨0,0⟩,_,rfl,by omega⟩)
 have hd0:d≠0:=by simpa using h14
 refine zg ?_
 refine zc hl rfl (spec316 n d (by omega) (by omega) hn2 hd2) ?_;rintro v S1 hk1 ⟨t,e,rfl,he⟩ hl
 refine zg ?_;refine re_storeL hl 0 rfl rfl rfl rfl rfl rfl rfl (by kernel_rfl) (c':=t.cells) rfl ?_
 intro S1 hl
 refine zg ?_
 exact done_ret (ress_cell rfl (lN (z:=2) (hl.get 0 rfl) rfl) (ress_tmp rfl rfl)) ⟨hl.keep,t,e,rfl,he⟩
noncomputable def cd277:Code:=Tryz.f277.body.getD .skip
theorem spec277(a b:Ti):CC Tryz.prog KK 277 [a.v,b.v] S (fun v S'=>Keep S S'∧(TmR v)):=by
 refine cc_enter (c:=cd277) (n:=33) Tryz.func277 rfl rfl rfl (by kernel_rfl) rfl rfl ?_
 have hl:=Hold.start S
 refine zg ?_;refine re_boxL hl rfl rfl rfl rfl rfl rfl ?_
 intro B2 S2 hl
 refine re_boxL hl rfl rfl rfl rfl rfl rfl ?_
 intro B3 S3 hl
 refine re_allocL hl rfl rfl rfl rfl rfl (z:=[.int .i64 0,.int .i64 0]) (by kernel_rfl) ?_
 intro B4 S4 hl
 refine zg ?_
 refine zc hl rfl (spec225 a b) ?_;rintro v S1 hk1 ⟨e,rfl,he⟩ hl
 refine zg ?_
 constructor<;>intro h11
 ·
  refine zg ?_;refine rr rfl (rd_build rfl rfl (v:=aggL [.int .i64 0,.int .i64 0]) (by rfl)) ?_;refine zg ?_;refine re_storeL hl 0 rfl rfl rfl rfl rfl rfl rfl (by kernel_rfl) (c':=[.int .i64 0,.int .i64 0]) rfl ?_
  intro S1 hl
  refine zg ?_
  exact thn_ret (done_ret (ress_cell rfl (lN (z:=2) (hl.get 0 rfl) rfl) (ress_tmp rfl rfl)) ⟨hl.keep,⟨0,0⟩,_,rfl,fun h=>by rw[h]at h11;cases h11⟩)
 obtain⟨⟨a1,a2,a3,a4⟩,b1,b2,b3,b4⟩:=he (by simpa using h11)
 have m1:=mul_bd (a:=a.n) (b:=b.d) a1 a2 (by omega) b4
 have m2:=mul_bd (a:=b.n) (b:=a.d) b1 b2 (by omega) a4
 have m3:=mul_bd (a:=a.d) (b:=b.d) (by omega) a4 (by omega) b4
 have m4:1≤a.d*b.d:=by have:=Int.mul_pos (a:=a.d) (b:=b.d) (by omega) (by omega);omega
 refine zg ?_
 refine zc hl rfl (spec316 (a.n*b.d+b.n*a.d) (a.d*b.d) (by omega) m4 (by omega) (by omega)) ?_;rintro v S1 hk1 ⟨t,e2,rfl,he2⟩ hl
 refine zg ?_;refine re_storeL hl 0 rfl rfl rfl rfl rfl rfl rfl (by kernel_rfl) (c':=t.cells) rfl ?_
 intro S1 hl
 refine zg ?_
 exact done_ret (ress_cell rfl (lN (z:=2) (hl.get 0 rfl) rfl) (ress_tmp rfl rfl)) ⟨hl.keep,t,e2,rfl,he2⟩
noncomputable def cd280:Code:=Tryz.f280.body.getD .skip
theorem spec280(a b:Ti):CC Tryz.prog KK 280 [a.v,b.v] S (fun v S'=>Keep S S'∧(TmR v)):=by
 refine cc_enter (c:=cd280) (n:=45) Tryz.func280 rfl rfl rfl (by kernel_rfl) rfl rfl ?_
 have hl:=Hold.start S
 refine zg ?_;refine re_boxL hl rfl rfl rfl rfl rfl rfl ?_
 intro B2 S2 hl
 refine re_boxL hl rfl rfl rfl rfl rfl rfl ?_
 intro B3 S3 hl
 refine re_allocL hl rfl rfl rfl rfl rfl (z:=[.int .i64 0,.int .i64 0]) (by kernel_rfl) ?_
 intro B4 S4 hl
 refine zg ?_
 refine zc hl rfl (spec225 a b) ?_;rintro v S1 hk1 ⟨e,rfl,he⟩ hl
 refine zg ?_
 constructor<;>intro h11
 ·
  refine zg ?_;refine rr rfl (rd_build rfl rfl (v:=aggL [.int .i64 0,.int .i64 0]) (by rfl)) ?_;refine zg ?_;refine re_storeL hl 0 rfl rfl rfl rfl rfl rfl rfl (by kernel_rfl) (c':=[.int .i64 0,.int .i64 0]) rfl ?_
  intro S1 hl
  refine zg ?_
  exact thn_ret (done_ret (ress_cell rfl (lN (z:=2) (hl.get 0 rfl) rfl) (ress_tmp rfl rfl)) ⟨hl.keep,⟨0,0⟩,_,rfl,fun h=>by rw[h]at h11;cases h11⟩)
 obtain⟨⟨a1,a2,a3,a4⟩,b1,b2,b3,b4⟩:=he (by simpa using h11)
 have m1:=mul_bd (a:=a.n) (b:=b.d) a1 a2 (by omega) b4
 have m2:=mul_bd (a:=b.n) (b:=a.d) b1 b2 (by omega) a4
 have m3:=mul_bd (a:=a.d) (b:=b.d) (by omega) a4 (by omega) b4
 have m4:1≤a.d*b.d:=by have:=Int.mul_pos (a:=a.d) (b:=b.d) (by omega) (by omega);omega
 refine zg ?_
 constructor<;>intro h24
 ·
  refine zg ?_;refine rr rfl (rd_build rfl rfl (v:=aggL [.int .i64 0,.int .i64 0]) (by rfl)) ?_;refine re_storeL hl 0 rfl rfl rfl rfl rfl rfl rfl (by kernel_rfl) (c':=[.int .i64 0,.int .i64 0]) rfl ?_
  intro S1 hl
  refine zg ?_
  exact thn_ret (done_ret (ress_cell rfl (lN (z:=2) (hl.get 0 rfl) rfl) (ress_tmp rfl rfl)) ⟨hl.keep,⟨0,0⟩,_,rfl,fun h=>by cases h⟩)
 have h24:=of_decide_eq_false h24
 refine zg ?_
 refine zc hl rfl (spec316 (a.n*b.d-b.n*a.d) (a.d*b.d) (by omega) m4 (by omega) (by omega)) ?_;rintro v S1 hk1 ⟨t,e2,rfl,he2⟩ hl
 refine zg ?_;refine re_storeL hl 0 rfl rfl rfl rfl rfl rfl rfl (by kernel_rfl) (c':=t.cells) rfl ?_
 intro S1 hl
 refine zg ?_
 exact done_ret (ress_cell rfl (lN (z:=2) (hl.get 0 rfl) rfl) (ress_tmp rfl rfl)) ⟨hl.keep,t,e2,rfl,he2⟩
noncomputable def cd226:Code:=Tryz.f226.body.getD .skip
theorem spec226(n d m c:Int)(hn:0≤n∧n≤1099511627776)(hd:1≤d∧d≤1048576)(hm:0≤m∧m≤1099511627776)(hc:1≤c∧c≤1099511627776):CC Tryz.prog KK 226 [.int .i64 n,.int .i64 d,.int .i64 m,.int .i64 c] S (fun v S'=>Keep S S'∧(TmR v)):=by
 refine cc_enter (c:=cd226) (n:=52) Tryz.func226 rfl rfl rfl (by kernel_rfl) rfl rfl ?_
 have hl:=Hold.start S
 have g1:=gI_pos (a:=n) (b:=c) (by omega)
 have g2:=gI_le (a:=n) (b:=c) (by omega)
 have g3:=gI_pos (a:=m) (b:=d) (by omega)
 have g4:=gI_le (a:=m) (b:=d) (by omega)
 refine zg ?_;refine re_allocL hl rfl rfl rfl rfl rfl (z:=[.int .i64 0,.int .i64 0]) (by kernel_rfl) ?_
 intro B8 S8 hl
 refine zg ?_
 refine zc hl rfl (spec276 n c (by omega) (by omega) (by omega) (by omega)) ?_;rintro v S1 hk1 rfl hl
 refine zg ?_
 refine zc hl rfl (spec276 m d (by omega) (by omega) (by omega) (by omega)) ?_;rintro v S1 hk1 rfl hl
 generalize gI n c=g at *
 generalize gI m d=h at *
 have q1:=quo_bd (a:=n) g1 hn.1
 have q2:=quo_bd (a:=c) g1 (by omega)
 have q3:=quo_bd (a:=m) g3 hm.1
 have q4:=quo_bd (a:=d) g3 (by omega)
 have q5:=quo_pos g1 g2
 have q6:=quo_pos g3 g4
 refine zA ?_;iterate 4 refine zS ?_
 generalize n.tdiv g=N at *
 generalize c.tdiv g=C at *
 generalize m.tdiv h=M at *
 generalize d.tdiv h=D at *
 have m3:=mul_bd (a:=D) (b:=C) (by omega) (show D≤1048576 by omega) (by omega) (show C≤1099511627776 by omega)
 have m4:1≤D*C:=by have:=Int.mul_pos (a:=D) (b:=C) (by omega) (by omega);omega
 refine xp_seq rfl ?_;refine xp_seq rfl (xe_toI 43 (fun v S'=>∃B:Bool,v= .bool B∧(B=false→(N≤0∨M≤(1099511627776:Int).tdiv N)∧D*C≤1048576)∧HoldG S [S] S' [(B8,.cells [.int .i64 0,.int .i64 0] 103 false true [])] []) ?_ ?_)
 ·
  refine zg ?_;refine re_bool (d:=32) rfl (fun h32=>?_) (fun h32=>?_)
  ·
   have hN:0<N:=by have:=of_decide_eq_true h32;omega
   iterate 2 refine zg ?_
   refine re_bool (d:=38) rfl (fun h38=>?_) (fun h38=>?_)
   ·
    refine zg ?_
    exact⟨rfl,_,bl rfl,sB,true,rfl,nofun,hl⟩
   refine zg ?_
   exact⟨rfl,_,bl rfl,sB,_,rfl,fun h=>⟨.inr (by have:=of_decide_eq_false h38;omega),by have:=of_decide_eq_false h;omega⟩,hl⟩
  refine zg ?_
  exact⟨rfl,_,bl rfl,sB,_,rfl,fun h=>⟨.inl (by have:=of_decide_eq_false h32;omega),by have:=of_decide_eq_false h;omega⟩,hl⟩
 rintro v S1 ⟨B,rfl,hB,hl⟩
 refine zg ?_
 constructor<;>intro h43
 ·
  refine zg ?_;refine rr rfl (rd_build rfl rfl (v:=aggL [.int .i64 0,.int .i64 0]) (by rfl)) ?_;refine re_storeL hl 0 rfl rfl rfl rfl rfl rfl rfl (by kernel_rfl) (c':=[.int .i64 0,.int .i64 0]) rfl ?_
  intro S1 hl
  refine zg ?_
  exact thn_ret (done_ret (ress_cell rfl (lN (z:=2) (hl.get 0 rfl) rfl) (ress_tmp rfl rfl)) ⟨hl.keep,⟨0,0⟩,_,rfl,fun h=>by cases h⟩)
 obtain⟨h1,h2⟩:=hB h43
 have hNM:0≤N*M∧N*M≤1099511627776:=by
  rcases h1 with h1|h1
  ·have:N=0:=by omega
   rw[this,Int.zero_mul]
   omega
  rcases Int.lt_or_le 0 N with hp|hp
  ·refine⟨Int.mul_nonneg (by omega) (by omega),?_⟩
   rw[Int.tdiv_eq_ediv_of_nonneg (by omega)]at h1
   have:=(Int.le_ediv_iff_mul_le hp).1 h1
   rw[Int.mul_comm]
   exact this
  have:N=0:=by omega
  rw[this,Int.zero_mul]
  omega
 refine zg ?_;refine rr rfl (rd_build rfl rfl (v:=aggL [.int .i64 (N*M),.int .i64 (D*C)]) (by rfl)) ?_;refine re_storeL hl 0 rfl rfl rfl rfl rfl rfl rfl (by kernel_rfl) (c':=[.int .i64 (N*M),.int .i64 (D*C)]) rfl ?_
 intro S1 hl
 refine zg ?_
 exact done_ret (ress_cell rfl (lN (z:=2) (hl.get 0 rfl) rfl) (ress_tmp rfl rfl)) ⟨hl.keep,⟨N*M,D*C⟩,0,rfl,fun _=>⟨hNM.1,hNM.2,m4,h2⟩⟩
noncomputable def cd183:Code:=Tryz.f183.body.getD .skip
theorem spec183(a b:Ti):CC Tryz.prog KK 183 [a.v,b.v] S (fun v S'=>Keep S S'∧(TmR v)):=by
 refine cc_enter (c:=cd183) (n:=25) Tryz.func183 rfl rfl rfl (by kernel_rfl) rfl rfl ?_
 have hl:=Hold.start S
 refine zg ?_;refine re_boxL hl rfl rfl rfl rfl rfl rfl ?_
 intro B2 S2 hl
 refine re_boxL hl rfl rfl rfl rfl rfl rfl ?_
 intro B3 S3 hl
 refine re_allocL hl rfl rfl rfl rfl rfl (z:=[.int .i64 0,.int .i64 0]) (by kernel_rfl) ?_
 intro B4 S4 hl
 refine zg ?_
 refine zc hl rfl (spec225 a b) ?_;rintro v S1 hk1 ⟨e,rfl,he⟩ hl
 refine zg ?_
 constructor<;>intro h11
 ·
  refine zg ?_;refine rr rfl (rd_build rfl rfl (v:=aggL [.int .i64 0,.int .i64 0]) (by rfl)) ?_;refine zg ?_;refine re_storeL hl 0 rfl rfl rfl rfl rfl rfl rfl (by kernel_rfl) (c':=[.int .i64 0,.int .i64 0]) rfl ?_
  intro S1 hl
  refine zg ?_
  exact thn_ret (done_ret (ress_cell rfl (lN (z:=2) (hl.get 0 rfl) rfl) (ress_tmp rfl rfl)) ⟨hl.keep,⟨0,0⟩,_,rfl,fun h=>by rw[h]at h11;cases h11⟩)
 obtain⟨⟨a1,a2,a3,a4⟩,b1,b2,b3,b4⟩:=he (by simpa using h11)
 have m1:=mul_bd (a:=a.n) (b:=b.d) a1 a2 (by omega) b4
 have m2:=mul_bd (a:=b.n) (b:=a.d) b1 b2 (by omega) a4
 have m3:=mul_bd (a:=a.d) (b:=b.d) (by omega) a4 (by omega) b4
 have m4:1≤a.d*b.d:=by have:=Int.mul_pos (a:=a.d) (b:=b.d) (by omega) (by omega);omega
 refine zg ?_
 refine zc hl rfl (spec226 a.n a.d b.n b.d ⟨a1,a2⟩ ⟨a3,a4⟩ ⟨b1,b2⟩ ⟨b3,by omega⟩) ?_;rintro v S1 hk1 ⟨t,e2,rfl,he2⟩ hl
 refine zg ?_;refine re_storeL hl 0 rfl rfl rfl rfl rfl rfl rfl (by kernel_rfl) (c':=t.cells) rfl ?_
 intro S1 hl
 refine zg ?_
 exact done_ret (ress_cell rfl (lN (z:=2) (hl.get 0 rfl) rfl) (ress_tmp rfl rfl)) ⟨hl.keep,t,e2,rfl,he2⟩
noncomputable def cd279:Code:=Tryz.f279.body.getD .skip
theorem spec279(a b:Ti):CC Tryz.prog KK 279 [a.v,b.v] S (fun v S'=>Keep S S'∧(TmR v)):=by
 refine cc_enter (c:=cd279) (n:=29) Tryz.func279 rfl rfl rfl (by kernel_rfl) rfl rfl ?_
 have hl:=Hold.start S
 refine zg ?_;refine re_boxL hl rfl rfl rfl rfl rfl rfl ?_
 intro B2 S2 hl
 refine re_boxL hl rfl rfl rfl rfl rfl rfl ?_
 intro B3 S3 hl
 refine re_allocL hl rfl rfl rfl rfl rfl (z:=[.int .i64 0,.int .i64 0]) (by kernel_rfl) ?_
 intro B4 S4 hl
 refine zg ?_
 refine zc hl rfl (spec225 a b) ?_;rintro v S1 hk1 ⟨e,rfl,he⟩ hl
 refine zg ?_
 constructor<;>intro h11
 ·
  refine zg ?_;refine rr rfl (rd_build rfl rfl (v:=aggL [.int .i64 0,.int .i64 0]) (by rfl)) ?_;refine zg ?_;refine re_storeL hl 0 rfl rfl rfl rfl rfl rfl rfl (by kernel_rfl) (c':=[.int .i64 0,.int .i64 0]) rfl ?_
  intro S1 hl
  refine zg ?_
  exact thn_ret (done_ret (ress_cell rfl (lN (z:=2) (hl.get 0 rfl) rfl) (ress_tmp rfl rfl)) ⟨hl.keep,⟨0,0⟩,_,rfl,fun h=>by rw[h]at h11;cases h11⟩)
 obtain⟨⟨a1,a2,a3,a4⟩,b1,b2,b3,b4⟩:=he (by simpa using h11)
 have m1:=mul_bd (a:=a.n) (b:=b.d) a1 a2 (by omega) b4
 have m2:=mul_bd (a:=b.n) (b:=a.d) b1 b2 (by omega) a4
 have m3:=mul_bd (a:=a.d) (b:=b.d) (by omega) a4 (by omega) b4
 have m4:1≤a.d*b.d:=by have:=Int.mul_pos (a:=a.d) (b:=b.d) (by omega) (by omega);omega
 refine zg ?_
 constructor<;>intro h16
 ·
  refine zg ?_;refine rr rfl (rd_build rfl rfl (v:=aggL [.int .i64 0,.int .i64 0]) (by rfl)) ?_;refine re_storeL hl 0 rfl rfl rfl rfl rfl rfl rfl (by kernel_rfl) (c':=[.int .i64 0,.int .i64 0]) rfl ?_
  intro S1 hl
  refine zg ?_
  exact thn_ret (done_ret (ress_cell rfl (lN (z:=2) (hl.get 0 rfl) rfl) (ress_tmp rfl rfl)) ⟨hl.keep,⟨0,0⟩,_,rfl,fun h=>by cases h⟩)
 have h16:b.n≠0:=by simpa using h16
 refine zg ?_
 refine zc hl rfl (spec226 a.n a.d b.d b.n ⟨a1,a2⟩ ⟨a3,a4⟩ ⟨by omega,by omega⟩ ⟨by omega,b2⟩) ?_;rintro v S1 hk1 ⟨t,e2,rfl,he2⟩ hl
 refine zg ?_;refine re_storeL hl 0 rfl rfl rfl rfl rfl rfl rfl (by kernel_rfl) (c':=t.cells) rfl ?_
 intro S1 hl
 refine zg ?_
 exact done_ret (ress_cell rfl (lN (z:=2) (hl.get 0 rfl) rfl) (ress_tmp rfl rfl)) ⟨hl.keep,t,e2,rfl,he2⟩
noncomputable def cd339:Code:=Tryz.f339.body.getD .skip
theorem spec339(a b:Ti):CC Tryz.prog KK 339 [a.v,b.v] S (fun v S'=>Keep S S'∧(∃c e:Int,v=tupV [.int .i64 c,.int .i64 e])):=by
 refine cc_enter (c:=cd339) (n:=33) Tryz.func339 rfl rfl rfl (by kernel_rfl) rfl rfl ?_
 have hl:=Hold.start S
 refine zg ?_;refine re_boxL hl rfl rfl rfl rfl rfl rfl ?_
 intro B2 S2 hl
 refine re_boxL hl rfl rfl rfl rfl rfl rfl ?_
 intro B3 S3 hl
 refine zg ?_
 refine zc hl rfl (spec225 a b) ?_;rintro v S1 hk1 ⟨e,rfl,he⟩ hl
 refine zg ?_
 constructor<;>intro h13
 ·
  refine zg ?_
  exact(z2 rfl rfl ⟨hl.keep,_,_,rfl⟩)
 obtain⟨⟨a1,a2,a3,a4⟩,b1,b2,b3,b4⟩:=he (by simpa using h13)
 have m1:=mul_bd (a:=a.n) (b:=b.d) a1 a2 (by omega) b4
 have m2:=mul_bd (a:=b.n) (b:=a.d) b1 b2 (by omega) a4
 refine zg ?_;refine xp_draw (idx:=[0,1,2,3,4,5,6,7,8,9,10,11]) rfl (by kernel_rfl) (by kernel_rfl) ?_;refine zg ?_
 constructor<;>intro h25
 ·
  refine zg ?_
  exact blk_ret ((z2 rfl rfl ⟨hl.keep,_,_,rfl⟩))
 refine zg ?_
 constructor<;>intro h29
 ·
  refine zg ?_
  exact blk_ret ((z2 rfl rfl ⟨hl.keep,_,_,rfl⟩))
 refine zg ?_
 exact y2 rfl rfl ⟨hl.keep,_,_,rfl⟩
end Go.Proofs.YtmfphenhpkgidaaGreatDoor
namespace Go.Proofs.YtmfphenhpkgidaaGreatDoor
open Go.Cm Go
set_option maxRecDepth 100000
variable{S:St}
structure It where
 sg:Int
 va:Int
 re:Bool
 co:Bool
 fi:Bool
 cu:Int
 du:Ti
 be:Ti
 af:Ti
def It.cells(x:It):List Value:=[.int .i64 x.sg,.int .i64 x.va,.bool x.re,.bool x.co,.bool x.fi,.int .i64 x.cu,.int .i64 x.du.n,.int .i64 x.du.d,.int .i64 x.be.n,.int .i64 x.be.d,.int .i64 x.af.n,.int .i64 x.af.d]
abbrev Its:=LsOf 266 12 It.cells
structure Bd where
 f:Int
 t:Int
 i:Int
def Bd.cells(x:Bd):List Value:=[.int .i64 x.f,.int .i64 x.t,.int .i64 x.i]
abbrev Bds:=LsOf 325 3 Bd.cells
structure Se where
 f:Int
 t:Int
 l:Int
 r:Int
 fr:Bool
 ct:Ti
def Se.cells(x:Se):List Value:=[.int .i64 x.f,.int .i64 x.t,.int .i64 x.l,.int .i64 x.r,.bool x.fr,.int .i64 x.ct.n,.int .i64 x.ct.d]
abbrev Ses:=LsOf 328 7 Se.cells
theorem int_n{C:Nat}{i:Int}(h0:0≤i)(h1:i<C):∃k:Nat,i=(k:Int)∧k<C:=⟨i.toNat,by omega,by omega⟩
noncomputable def cd228:Code:=Tryz.f228.body.getD .skip
theorem spec228(a:Option Addr)(cap:Nat)(C:List It)(hn:C.length≤1000)(_:Fresh S)(hv:Its S (.slice a C.length cap) C):CC Tryz.prog KK 228 [.slice a C.length cap] S (fun v S'=>Keep S S'∧(∃e i:Int,v=tupV [.int .i64 e,.int .i64 i])):=by
 refine cc_enter (c:=cd228) (n:=80) Tryz.func228 rfl rfl rfl (by kernel_rfl) rfl rfl ?_
 have hl:=Hold.start S
 refine zS ?_;refine xp_seq rfl ?_;refine zS ?_;refine xp_block rfl ?_;refine xe_sub (L':=[(4,.int .i64 0),(3,.int .i64 0),(2,.int .i64 0),(0,.slice a C.length cap)]) ⟨rfl,rfl,rfl,rfl,trivial⟩ ?_
 refine xp_loop rfl (fun m Le S'=>∃i:Nat,i≤C.length∧m=C.length-i∧SubE [(4,.int .i64 (i:Int)),(3,.int .i64 0),(2,.int .i64 0),(0,.slice a C.length cap)] Le∧HoldG S [S] S' [] []) ?_ (m:=C.length) ⟨0,by omega,by omega,⟨rfl,rfl,rfl,rfl,trivial⟩,hl⟩
 clear hl;rintro m Le S' ⟨i,hi,rfl,hsub,hl⟩;refine xe_sub hsub ?_
 refine zg ?_
 constructor<;>intro h12
 ·
  have hlt:i<C.length:=by have:=of_decide_eq_true h12;omega
  obtain⟨x,hx⟩:=nth_some hlt
  obtain⟨b1,o1,cs1,ha,_,hrow,htk⟩:=hv.elem hx
  refine zg ?_;refine re_allocL hl rfl rfl rfl rfl rfl (z:=[.int .i64 0,.int .i64 0,.bool false,.bool false,.bool false,.int .i64 0,.int .i64 0,.int .i64 0,.int .i64 0,.int .i64 0,.int .i64 0,.int .i64 0]) (by kernel_rfl) ?_
  intro B5 S5 hl
  refine re_storeL hl 0 rfl rfl rfl rfl rfl rfl rfl (by kernel_rfl) (c':=x.cells) rfl ?_
  intro S1 hl
  refine zA ?_;refine xp_seq rfl ?_;refine xp_seq rfl (xe_toW hl 36 Value.bool ?_ rfl ?_)
  ·
   refine zg ?_;refine re_bool (d:=22) rfl (fun h22=>?_) (fun h22=>?_)
   ·
    refine zg ?_
    exact⟨rfl,⟨_,bl rfl⟩,sB,hl⟩
   refine zg ?_;refine re_bool (d:=27) rfl (fun h27=>?_) (fun h27=>?_)
   ·
    refine zg ?_
    exact⟨rfl,⟨_,bl rfl⟩,sB,hl⟩
   refine zg ?_;refine re_bool (d:=32) rfl (fun h32=>?_) (fun h32=>?_)
   ·
    refine zg ?_
    exact⟨rfl,⟨_,bl rfl⟩,sB,hl⟩
   refine zg ?_
   exact⟨rfl,⟨_,bl rfl⟩,sB,hl⟩
  intro q36 S1 hl
  refine zg ?_
  constructor<;>intro h36
  ·
   refine zg ?_
   exact thn_ret (blk_ret (thn_ret (round_ret (blk_ret ((z2 rfl rfl ⟨hl.keep,_,_,rfl⟩))))))
  refine zg ?_;refine re_buildSliceR hl rfl rfl rfl rfl rfl Tryz.underlying91 rfl (c:=[.int .i64 x.du.n,.int .i64 x.du.d,.int .i64 x.be.n,.int .i64 x.be.d,.int .i64 x.af.n,.int .i64 x.af.d]) (by kernel_rfl) ?_;intro B44 S1 hr44 hl
  have ht:Tis S1 (.slice (some ⟨B44,0,none⟩) 3 3) [x.du,x.be,x.af]:=LsOf.row (f:=Ti.cells) (C:=[_,_,_]) (fun _=>rfl) hr44 rfl
  clear ha hrow htk
  refine zA ?_;refine xp_seq rfl ?_;refine zS ?_;refine xp_block rfl ?_;refine xe_sub (L':=[(7,.int .i64 0),(6,.slice (some ⟨B44,0,none⟩) 3 3),(5,ptrTo B5 0),(4,.int .i64 (i:Int)),(3,.int .i64 0),(2,.int .i64 0),(0,.slice a C.length cap)]) ⟨rfl,rfl,rfl,rfl,rfl,rfl,rfl,trivial⟩ ?_
  have hl:=hl.mark
  refine xp_loop rfl (fun m Le S'=>∃j:Nat,j≤3∧m=3-j∧SubE [(7,.int .i64 (j:Int)),(6,.slice (some ⟨B44,0,none⟩) 3 3),(5,ptrTo B5 0),(4,.int .i64 (i:Int)),(3,.int .i64 0),(2,.int .i64 0),(0,.slice a C.length cap)] Le∧HoldG S [S1,S] S' [(B5,.cells x.cells 266 false true [])] []) ?_ (m:=3) ⟨0,by omega,by omega,⟨rfl,rfl,rfl,rfl,rfl,rfl,rfl,trivial⟩,hl.marks (fun T hT=>by rcases List.mem_cons.1 hT with rfl|hT;exact List.mem_cons_self ..;exact List.mem_cons_of_mem _ (by simpa using hT))⟩
  clear hl;rintro m Le S' ⟨j,hj,rfl,hsub,hl⟩;refine xe_sub hsub ?_
  have ht:=ht.move (hl.since 0 rfl)
  refine zg ?_
  constructor<;>intro h48
  ·
   have hlt:j<3:=by have:=of_decide_eq_true h48;omega
   obtain⟨y,hy⟩:=nth_some (l:=[x.du,x.be,x.af]) hlt
   obtain⟨b2,o2,cs2,ha,_,hrow,htk⟩:=ht.elem hy
   refine zg ?_
   refine zc hl rfl (spec275 y) ?_;rintro v S1 hk1 ⟨e,rfl,he⟩ hl
   refine zg ?_
   constructor<;>intro h57
   ·
    refine zg ?_
    exact blk_ret (thn_ret (round_ret (blk_ret (thn_ret (blk_ret (thn_ret (round_ret (blk_ret ((z2 rfl rfl ⟨hl.keep,_,_,rfl⟩))))))))))
   refine zg ?_
   exact⟨3-(j+1),by omega,j+1,by omega,rfl,⟨rfl,rfl,rfl,rfl,rfl,rfl,rfl,trivial⟩,hl⟩
  refine xp_exit rfl ?_;refine xp_seq rfl (xe_toW hl 78 Value.bool ?_ rfl ?_)
  ·
   refine zg ?_;refine re_bool (d:=62) rfl (fun h62=>?_) (fun h62=>?_)
   ·
    refine zg ?_;refine re_bool (d:=66) rfl (fun h66=>?_) (fun h66=>?_)
    ·
     refine zg ?_
     exact⟨rfl,⟨_,bl rfl⟩,sB,hl⟩
    refine zg ?_;refine re_bool (d:=69) rfl (fun h69=>?_) (fun h69=>?_)
    ·
     refine zg ?_;refine rr rfl (rd_un rfl rfl rfl) ?_;refine zg ?_
     exact⟨rfl,⟨_,bl rfl⟩,sB,hl⟩
    refine zg ?_;refine re_bool (d:=73) rfl (fun h73=>?_) (fun h73=>?_)
    ·
     refine zg ?_;refine rr rfl (rd_un rfl rfl rfl) ?_;refine zg ?_
     exact⟨rfl,⟨_,bl rfl⟩,sB,hl⟩
    refine zg ?_
    exact⟨rfl,⟨_,bl rfl⟩,sB,hl⟩
   refine zg ?_;refine re_bool (d:=69) rfl (fun h69=>?_) (fun h69=>?_)
   ·
    refine zg ?_;refine rr rfl (rd_un rfl rfl rfl) ?_;refine zg ?_
    exact⟨rfl,⟨_,bl rfl⟩,sB,hl⟩
   refine zg ?_;refine re_bool (d:=73) rfl (fun h73=>?_) (fun h73=>?_)
   ·
    refine zg ?_;refine rr rfl (rd_un rfl rfl rfl) ?_;refine zg ?_
    exact⟨rfl,⟨_,bl rfl⟩,sB,hl⟩
   refine zg ?_
   exact⟨rfl,⟨_,bl rfl⟩,sB,hl⟩
  intro q78 S1 hl
  refine zg ?_
  constructor<;>intro h78
  ·
   refine zg ?_
   exact blk_ret (thn_ret (round_ret (blk_ret ((z2 rfl rfl ⟨hl.keep,_,_,rfl⟩)))))
  refine zg ?_
  exact⟨C.length-(i+1),by omega,i+1,by omega,rfl,⟨rfl,rfl,rfl,rfl,trivial⟩,hl.tail.marks (Us:=[S]) (fun T hT=>List.mem_cons_of_mem _ hT)⟩
 refine zg ?_
 exact y2 rfl rfl ⟨hl.keep,_,_,rfl⟩
noncomputable def cd230:Code:=Tryz.f230.body.getD .skip
theorem spec230(a:Option Addr)(cap:Nat)(C:List It)(x:Bd)(hn:C.length≤1000)(_:Fresh S)(hb:x.i<C.length)(hv:Its S (.slice a C.length cap) C):CC Tryz.prog KK 230 [.slice a C.length cap,aggL x.cells] S (fun v S'=>Keep S S'∧(∃r:Int,v= .int .i64 r∧ -1≤r∧r<C.length)):=by
 refine cc_enter (c:=cd230) (n:=19) Tryz.func230 rfl rfl rfl (by kernel_rfl) rfl rfl ?_
 have hl:=Hold.start S
 refine zg ?_;refine re_boxL hl rfl rfl rfl rfl rfl rfl ?_
 intro B3 S3 hl
 refine zA ?_;refine xp_seq rfl ?_;refine xp_seq rfl (xe_toI 16 (fun v S'=>∃B:Bool,v= .bool B∧(B=true→0≤x.i)∧HoldG S [S] S' [(B3,.cells x.cells 325 false true [])] []) ?_ ?_)
 ·
  refine zg ?_;refine re_bool (d:=8) rfl (fun h8=>?_) (fun h8=>?_)
  ·
   have hi0:0≤x.i:=by have:=of_decide_eq_true h8;omega
   obtain⟨k,hk,hk2⟩:=int_n hi0 hb
   obtain⟨y,hy⟩:=nth_some hk2
   obtain⟨b1,o1,cs1,ha,_,hrow,htk⟩:=hv.elem hy
   have hk3:x.i.toNat=k:=by omega
   rw[←hk3]at htk
   refine zg ?_;refine rr rfl (rd_un rfl rfl rfl) ?_;refine zg ?_
   exact⟨rfl,_,bl rfl,sB,_,rfl,fun _=>hi0,hl⟩
  refine zg ?_
  exact⟨rfl,_,bl rfl,sB,false,rfl,nofun,hl⟩
 rintro v S1 ⟨B,rfl,hB,hl⟩
 refine zg ?_
 constructor<;>intro h16
 ·
  have:=hB h16
  refine zg ?_
  exact(z1 rfl ⟨hl.keep,_,rfl,by omega,by omega⟩)
 refine zg ?_
 exact y1 rfl ⟨hl.keep, -1,rfl,by omega,by omega⟩
end Go.Proofs.YtmfphenhpkgidaaGreatDoor
namespace Go.Proofs.YtmfphenhpkgidaaGreatDoor
open Go.Cm Go
set_option maxRecDepth 100000
variable{S:St}
abbrev mV4(p q r t:Int):Value:=aggL [.int .i64 p,.int .i64 q,.int .i64 r,.int .i64 t]
def ptI(p q r t k:Int):Int:=bif k==1 then p else bif k==2 then q else bif k==3 then r else bif k==4 then t else 2
def TmW(v:Value):Prop:= ∃(t:Ti) (e:Int),v=tupV [t.v,.int .i64 e]
noncomputable def cd178:Code:=Tryz.f178.body.getD .skip
theorem spec178(p q r t k:Int):CC Tryz.prog KK 178 [mV4 p q r t,.int .i64 k] S (fun v S'=>Keep S S'∧(v= .int .i64 (ptI p q r t k))):=by
 refine cc_enter (c:=cd178) (n:=22) Tryz.func178 rfl rfl rfl (by kernel_rfl) rfl rfl ?_
 have hl:=Hold.start S
 refine zg ?_;refine re_boxL hl rfl rfl rfl rfl rfl rfl ?_
 intro B2 S1 hl
 refine zg ?_
 constructor<;>intro h1
 ·
  refine zg ?_
  exact blk_ret (z1 rfl ⟨hl.keep,by unfold ptI;rw[h1];rfl⟩)
 refine zg ?_
 constructor<;>intro h2
 ·
  refine zg ?_
  exact blk_ret (z1 rfl ⟨hl.keep,by unfold ptI;rw[h1,h2];rfl⟩)
 refine zg ?_
 constructor<;>intro h3
 ·
  refine zg ?_
  exact blk_ret (z1 rfl ⟨hl.keep,by unfold ptI;rw[h1,h2,h3];rfl⟩)
 refine zg ?_
 constructor<;>intro h4
 ·
  refine zg ?_
  exact blk_ret (z1 rfl ⟨hl.keep,by unfold ptI;rw[h1,h2,h3,h4];rfl⟩)
 refine zg ?_
 exact y1 rfl ⟨hl.keep,by unfold ptI;rw[h1,h2,h3,h4];rfl⟩
def valE(p q r t k:Int):Int:=bif mensE p q r t !=0 then mensE p q r t else bif decide (k<1)||decide (k>8)then 2 else 0
noncomputable def cd273:Code:=Tryz.f273.body.getD .skip
theorem spec273(p q r t k:Int):CC Tryz.prog KK 273 [mV4 p q r t,.int .i64 k] S (fun v S'=>Keep S S'∧(v= .int .i64 (valE p q r t k))):=by
 refine cc_enter (c:=cd273) (n:=17) Tryz.func273 rfl rfl rfl (by kernel_rfl) rfl rfl ?_
 have hl:=Hold.start S
 refine zg ?_;refine re_boxL hl rfl rfl rfl rfl rfl rfl ?_
 intro B2 S1 hl
 refine zg ?_
 refine zc hl rfl (spec90 p q r t) ?_;rintro v S1 hk1 rfl hl
 refine zg ?_
 constructor<;>intro h9
 ·
  refine zg ?_
  exact(z1 rfl ⟨hl.keep,by unfold valE;rw[h9];rfl⟩)
 refine xp_skip rfl ?_;refine xp_seq rfl ?_;refine xp_seq rfl (xe_toE hl 16 (.bool (decide (k<1)||decide (k>8))) ?_ rfl ?_)
 ·
  refine zg ?_;refine re_bool (d:=13) rfl (fun h13=>?_) (fun h13=>?_)
  ·
   refine zg ?_
   exact⟨rfl,bl (by rw[h13];rfl),sB,hl⟩
  refine zg ?_
  exact⟨rfl,bl (by rw[h13];rfl),sB,hl⟩
 intro S1 hl
 refine zg ?_
 constructor<;>intro h16
 ·
  refine zg ?_
  exact(z1 rfl ⟨hl.keep,by unfold valE;rw[h9,h16];rfl⟩)
 refine zg ?_
 exact y1 rfl ⟨hl.keep,by unfold valE;rw[h9,h16];rfl⟩
def abvN(p q r t:Int):Nat→Int
 |0=>0
 |w+1=>bif ptI p q r t ((w+1:Nat):Int)==3 then((w+1:Nat):Int)else abvN p q r t w
def abI(p q r t k:Int):Int:=bif valE p q r t k !=0 then 0 else abvN p q r t (k-1).toNat
noncomputable def cd271:Code:=Tryz.f271.body.getD .skip
theorem spec271(p q r t k:Int):CC Tryz.prog KK 271 [mV4 p q r t,.int .i64 k] S (fun v S'=>Keep S S'∧(v=tupV [.int .i64 (abI p q r t k),.int .i64 (valE p q r t k)])):=by
 refine cc_enter (c:=cd271) (n:=25) Tryz.func271 rfl rfl rfl (by kernel_rfl) rfl rfl ?_
 have hl:=Hold.start S
 refine zg ?_;refine re_boxL hl rfl rfl rfl rfl rfl rfl ?_
 intro B2 S2 hl
 refine zg ?_
 refine zc hl rfl (spec273 p q r t k) ?_;rintro v S1 hk1 rfl hl
 refine zg ?_
 constructor<;>intro h12
 ·
  refine zg ?_
  exact(z2 rfl rfl ⟨hl.keep,by unfold abI;rw[h12];rfl⟩)
 have hv0:valE p q r t k=0:=by simpa using h12
 have hk:1≤k∧k≤8:=by
  unfold valE at hv0
  cases hm:mensE p q r t !=0 with
  |true=>rw[hm]at hv0;simp at hm;exact absurd hv0 hm
  |false =>
   rw[hm]at hv0
   cases hb:decide (k<1)||decide (k>8)with
   |true=>rw[hb]at hv0;cases hv0
   |false=>simp only[Bool.or_eq_false_iff,decide_eq_false_iff_not]at hb;omega
 have hab:abI p q r t k=abvN p q r t (k-1).toNat:=by unfold abI;rw[h12];rfl
 rw[hab,hv0]
 refine zg ?_;refine xe_sub (L':=[(7,.int .i64 (k-1)),(5,.int .i64 0),(4,.int .i64 0),(2,ptrTo B2 0)]) ⟨rfl,rfl,rfl,rfl,trivial⟩ ?_
 refine xp_loop rfl (fun m Le S'=>∃w:Nat,w≤8∧w=m∧abvN p q r t w=abvN p q r t (k-1).toNat∧SubE [(7,.int .i64 (w:Int)),(5,.int .i64 0),(4,.int .i64 0),(2,ptrTo B2 0)] Le∧HoldG S [S] S' [(B2,.cells [.int .i64 p,.int .i64 q,.int .i64 r,.int .i64 t] 51 false true [])] []) ?_ (m:=(k-1).toNat) ⟨(k-1).toNat,by omega,rfl,rfl,⟨congrArg some (congrArg (Value.int .i64) (by omega)),rfl,rfl,rfl,trivial⟩,hl⟩
 clear hl;rintro m Le S' ⟨w,hw,rfl,hin,hsub,hl⟩;refine xe_sub hsub ?_
 refine zg ?_
 constructor<;>intro h17
 ·
  obtain⟨w,rfl⟩:∃j,w=j+1:=⟨w-1,by have:=of_decide_eq_true h17;omega⟩
  refine zg ?_
  refine zc hl rfl (spec178 p q r t ((w+1:Nat):Int)) ?_;rintro v S1 hk1 rfl hl
  refine zg ?_
  constructor<;>intro h23
  ·
   refine zg ?_
   have e:abvN p q r t (w+1)=((w+1:Nat):Int):=by rw[abvN,h23];rfl
   exact blk_ret (thn_ret (round_ret (blk_ret ((z2 rfl rfl ⟨hl.keep,by rw[←hin,e]⟩)))))
  have e:abvN p q r t (w+1)=abvN p q r t w:=by rw[abvN,h23];rfl
  refine zg ?_
  exact⟨w,by omega,w,by omega,rfl,by rw[←hin,e],⟨congrArg some (congrArg (Value.int .i64) (by omega)),rfl,rfl,rfl,trivial⟩,hl⟩
 have hw0:w=0:=by have:=of_decide_eq_false h17;omega
 subst hw0
 refine zg ?_
 exact y2 rfl rfl ⟨hl.keep,by rw[←hin];rfl⟩
abbrev gI'(av:Option Addr)(D:List Int):Gr:=gOf 3 1 ic (.slice av D.length D.length) D
theorem gI_ok{Ts:List St}{S0 S1:St}{l:List (Nat×Blk)}{av:Option Addr}{D:List Int}{x:Int}(h:HoldG S0 Ts S1 l [⟨.slice av (D.length+1) (D.length+1),3,1,(D.map ic).flatten++ic x,D.length+1⟩]):HoldG S0 Ts S1 l [gI' av (D++[x])]:=by
 unfold gI'
 rw[gOf_push]
 exact h
noncomputable def cd143:Code:=Tryz.f143.body.getD .skip
theorem spec143(p q r t:Int):CC Tryz.prog KK 143 [mV4 p q r t] S (fun v S'=>Keep S S'∧((∃e:Int,e≠0∧v=tupV [.slice none 0 0,.int .i64 e])∨∃av D,v=tupV [.slice av D.length D.length,.int .i64 0]∧Nums S' (.slice av D.length D.length) D∧D.length≤4∧∀x,x∈D→1≤x∧x≤4)):=by
 refine cc_enter (c:=cd143) (n:=25) Tryz.func143 rfl rfl rfl (by kernel_rfl) rfl rfl ?_
 have hl:=Hold.start S
 refine zg ?_;refine re_boxL hl rfl rfl rfl rfl rfl rfl ?_
 intro B1 S1 hl
 refine zg ?_
 refine zc hl rfl (spec90 p q r t) ?_;rintro v S1 hk1 rfl hl
 refine zg ?_
 constructor<;>intro h10
 ·
  refine zg ?_
  exact(z2 rfl rfl ⟨hl.keep,.inl ⟨_,by simpa using h10,rfl⟩⟩)
 refine zg ?_
 have hl:=hl.addG (g:=gI' none []) (.inl ⟨rfl,rfl,rfl⟩)
 refine xe_sub (L':=[(6,.int .i64 4),(5,.slice none 0 0),(3,.int .i64 0),(2,.slice none 0 0),(1,ptrTo B1 0)]) ⟨rfl,rfl,rfl,rfl,rfl,trivial⟩ ?_
 refine xp_loop rfl (fun m Le S'=>∃(w:Nat) (av:Option Addr) (D:List Int),w≤4∧w=m∧D.length+w≤4∧(∀x,x∈D→1≤x∧x≤4)∧SubE [(6,.int .i64 (w:Int)),(5,.slice av D.length D.length),(3,.int .i64 0),(2,.slice none 0 0),(1,ptrTo B1 0)] Le∧HoldG S [S] S' [(B1,.cells [.int .i64 p,.int .i64 q,.int .i64 r,.int .i64 t] 51 false true [])] [gI' av D]) ?_ (m:=4) ⟨4,none,[],by omega,rfl,by show 0+4≤4;omega,fun x hx=>(List.not_mem_nil hx).elim,⟨rfl,rfl,rfl,rfl,rfl,trivial⟩,hl⟩
 clear hl;rintro m Le S' ⟨w,av,D,hw,rfl,hD,hok,hsub,hl⟩;refine xe_sub hsub ?_
 refine zg ?_
 constructor<;>intro h13
 ·
  obtain⟨w,rfl⟩:∃j,w=j+1:=⟨w-1,by have:=of_decide_eq_true h13;omega⟩
  have ew:((w+1:Nat):Int)-1=(w:Int):=by omega
  refine zg ?_
  refine zc hl rfl (spec178 p q r t ((w+1:Nat):Int)) ?_;rintro v S1 hk1 rfl hl
  refine zg ?_
  constructor<;>intro h19
  ·
   refine zg ?_;refine re_buildSliceR hl rfl rfl rfl rfl rfl Tryz.underlying38 rfl (c:=ic ((w+1:Nat):Int)) (by kernel_rfl) ?_;intro B22 S1 hr22 hl;refine re_appendG hl 0 rfl rfl (by simp) rfl rfl rfl rfl rfl rfl rfl Tryz.underlying38 Tryz.underlying38 rfl rfl (by kernel_rfl) (src_row_ (n:=1) (cap:=1) hr22 rfl) rfl rfl (by kernel_rfl) (by show D.length+1≤maxNeed;unfold maxNeed;omega) ?_;intro v23 S1 hl
   obtain⟨av2,rfl⟩:∃x,v23= .slice x (D.length+1) (D.length+1):=Grow.is_ (hl.gr _ (List.mem_cons_self ..))
   have hl:HoldG S [S] S1 _ [gI' av2 (D++[((w+1:Nat):Int)])]:=gI_ok hl
   refine zg ?_
   refine⟨w,by omega,w,av2,D++[((w+1:Nat):Int)],by omega,rfl,by rw[len_push];omega,fun x hx=>?_,⟨congrArg some (congrArg (Value.int .i64) ew),by rw[len_push];rfl,rfl,rfl,rfl,trivial⟩,hl⟩
   rcases List.mem_append.1 hx with h|h
   ·exact hok x h
   rw[List.mem_singleton.1 h];omega
  refine zg ?_
  exact⟨w,by omega,w,av,D,by omega,rfl,by omega,hok,⟨congrArg some (congrArg (Value.int .i64) ew),rfl,rfl,rfl,rfl,trivial⟩,hl⟩
 refine zg ?_
 exact y2 rfl rfl ⟨hl.keep,.inr ⟨av,D,rfl,Grow.ls (f:=ic) (fun _=>rfl) (hl.gr _ (List.mem_cons_self ..)),by omega,hok⟩⟩
noncomputable def cd222:Code:=Tryz.f222.body.getD .skip
theorem spec222(p q r t k:Int)(hk: -100≤k∧k≤100):CC Tryz.prog KK 222 [mV4 p q r t,.int .i64 k] S (fun v S'=>Keep S S'∧(TmW v)):=by
 refine cc_enter (c:=cd222) (n:=38) Tryz.func222 rfl rfl rfl (by kernel_rfl) rfl rfl ?_
 have hl:=Hold.start S
 refine zg ?_;refine re_boxL hl rfl rfl rfl rfl rfl rfl ?_
 intro B2 S2 hl
 refine re_allocL hl rfl rfl rfl rfl rfl (z:=[.int .i64 0,.int .i64 0]) (by kernel_rfl) ?_
 intro B4 S4 hl
 refine zg ?_
 refine zc hl rfl (spec273 p q r t k) ?_;rintro v S1 hk1 rfl hl
 refine zg ?_
 constructor<;>intro h15
 ·
  refine zg ?_;refine rr rfl (rd_build rfl rfl (v:=aggL [.int .i64 0,.int .i64 0]) (by rfl)) ?_;refine zg ?_;refine re_storeL hl 0 rfl rfl rfl rfl rfl rfl rfl (by kernel_rfl) (c':=[.int .i64 0,.int .i64 0]) rfl ?_
  intro S1 hl
  refine zg ?_
  exact thn_ret (done_ret (ress_cell rfl (lN (z:=2) (hl.get 0 rfl) rfl) (ress_tmp rfl rfl)) ⟨hl.keep,⟨0,0⟩,_,rfl⟩)
 refine zg ?_;refine xe_sub (L':=[(9,.int .i64 k),(8,.int .i64 1),(7,.int .i64 1),(5,.int .i64 0),(4,ptrTo B4 0),(2,ptrTo B2 0),(1,.int .i64 k)]) ⟨rfl,rfl,rfl,rfl,rfl,rfl,rfl,trivial⟩ ?_
 refine xp_loop rfl (fun m Le S'=>∃i N:Int, -100≤i∧i≤100∧m=(100-i).toNat∧SubE [(9,.int .i64 i),(8,.int .i64 1),(7,.int .i64 N),(5,.int .i64 0),(4,ptrTo B4 0),(2,ptrTo B2 0),(1,.int .i64 k)] Le∧HoldG S [S] S' [(B4,.cells [.int .i64 0,.int .i64 0] 103 false true []),(B2,.cells [.int .i64 p,.int .i64 q,.int .i64 r,.int .i64 t] 51 false true [])] []) ?_ (m:=(100-k).toNat) ⟨k,1,hk.1,hk.2,rfl,⟨rfl,rfl,rfl,rfl,rfl,rfl,rfl,trivial⟩,hl⟩
 clear hl;rintro m Le S' ⟨i,N,hi,hi2,rfl,hsub,hl⟩;refine xe_sub hsub ?_
 refine zg ?_
 constructor<;>intro h20
 ·
  have h20:=of_decide_eq_true h20
  refine zg ?_
  refine zc hl rfl (spec178 p q r t i) ?_;rintro v S1 hk1 rfl hl
  refine zg ?_
  exact⟨(100-(i+1)).toNat,by omega,i+1,_,by omega,by omega,rfl,⟨rfl,rfl,rfl,rfl,rfl,rfl,rfl,trivial⟩,hl⟩
 clear hi hi2
 refine zg ?_;refine xe_sub (L':=[(10,.int .i64 k),(8,.int .i64 1),(7,.int .i64 N),(5,.int .i64 0),(4,ptrTo B4 0),(2,ptrTo B2 0)]) ⟨rfl,rfl,rfl,rfl,rfl,rfl,trivial⟩ ?_
 refine xp_loop rfl (fun m Le S'=>∃i D:Int, -100≤i∧i≤100∧m=(i+100).toNat∧SubE [(10,.int .i64 i),(8,.int .i64 D),(7,.int .i64 N),(5,.int .i64 0),(4,ptrTo B4 0),(2,ptrTo B2 0)] Le∧HoldG S [S] S' [(B4,.cells [.int .i64 0,.int .i64 0] 103 false true []),(B2,.cells [.int .i64 p,.int .i64 q,.int .i64 r,.int .i64 t] 51 false true [])] []) ?_ (m:=(k+100).toNat) ⟨k,1,hk.1,hk.2,rfl,⟨rfl,rfl,rfl,rfl,rfl,rfl,trivial⟩,hl⟩
 clear hl hsub;rintro m Le S' ⟨i,D,hi,hi2,rfl,hsub,hl⟩;refine xe_sub hsub ?_
 refine zg ?_
 constructor<;>intro h30
 ·
  have h30:=of_decide_eq_true h30
  refine zg ?_
  exact⟨(i-1+100).toNat,by omega,i-1,_,by omega,by omega,rfl,⟨rfl,rfl,rfl,rfl,rfl,rfl,trivial⟩,hl⟩
 refine zg ?_;refine rr rfl (rd_build rfl rfl (v:=aggL (Ti.mk N D).cells) (by rfl)) ?_;refine re_storeL hl 0 rfl rfl rfl rfl rfl rfl rfl (by kernel_rfl) (c':=(Ti.mk N D).cells) rfl ?_
 intro S1 hl
 refine zg ?_
 exact done_ret (ress_cell rfl (lN (z:=2) (hl.get 0 rfl) rfl) (ress_tmp rfl rfl)) ⟨hl.keep,⟨N,D⟩,_,rfl⟩
noncomputable def cd227:Code:=Tryz.f227.body.getD .skip
theorem spec227(p q r t k:Int)(hk: -50≤k∧k≤50):CC Tryz.prog KK 227 [mV4 p q r t,.int .i64 k] S (fun v S'=>Keep S S'∧(TmW v)):=by
 refine cc_enter (c:=cd227) (n:=32) Tryz.func227 rfl rfl rfl (by kernel_rfl) rfl rfl ?_
 have hl:=Hold.start S
 refine zg ?_;refine re_boxL hl rfl rfl rfl rfl rfl rfl ?_
 intro B2 S2 hl
 refine re_allocL hl rfl rfl rfl rfl rfl (z:=[.int .i64 0,.int .i64 0]) (by kernel_rfl) ?_
 intro B4 S4 hl
 refine zg ?_
 refine zc hl rfl (spec90 p q r t) ?_;rintro v S1 hk1 rfl hl
 refine zg ?_
 constructor<;>intro h10
 ·
  refine zg ?_;refine rr rfl (rd_build rfl rfl (v:=aggL [.int .i64 0,.int .i64 0]) (by rfl)) ?_;refine zg ?_;refine re_storeL hl 0 rfl rfl rfl rfl rfl rfl rfl (by kernel_rfl) (c':=[.int .i64 0,.int .i64 0]) rfl ?_
  intro S1 hl
  refine zg ?_
  exact thn_ret (done_ret (ress_cell rfl (lN (z:=2) (hl.get 0 rfl) rfl) (ress_tmp rfl rfl)) ⟨hl.keep,⟨0,0⟩,_,rfl⟩)
 refine xp_skip rfl ?_;refine xp_seq rfl ?_;refine xp_seq rfl (xe_toW hl 24 Value.bool ?_ rfl ?_)
 ·
  refine zg ?_;refine re_bool (d:=15) rfl (fun h15=>?_) (fun h15=>?_)
  ·
   refine zg ?_
   exact⟨rfl,⟨_,bl rfl⟩,sB,hl⟩
  refine zg ?_;refine re_bool (d:=19) rfl (fun h19=>?_) (fun h19=>?_)
  ·
   refine zg ?_
   exact⟨rfl,⟨_,bl rfl⟩,sB,hl⟩
  refine zg ?_
  refine zc hl rfl (spec178 p q r t k) ?_;rintro v S1 hk1 rfl hl
  refine zg ?_
  exact⟨rfl,⟨_,bl rfl⟩,sB,hl⟩
 intro q24 S1 hl
 refine zg ?_
 constructor<;>intro h24
 ·
  refine zg ?_;refine rr rfl (rd_build rfl rfl (v:=aggL [.int .i64 0,.int .i64 0]) (by rfl)) ?_;refine re_storeL hl 0 rfl rfl rfl rfl rfl rfl rfl (by kernel_rfl) (c':=[.int .i64 0,.int .i64 0]) rfl ?_
  intro S1 hl
  refine zg ?_
  exact thn_ret (done_ret (ress_cell rfl (lN (z:=2) (hl.get 0 rfl) rfl) (ress_tmp rfl rfl)) ⟨hl.keep,⟨0,0⟩,_,rfl⟩)
 refine zg ?_
 refine zc hl rfl (spec222 p q r t (k+1) (by omega)) ?_;rintro v S1 hk1 ⟨u,e,rfl⟩ hl
 refine zg ?_;refine re_storeL hl 0 rfl rfl rfl rfl rfl rfl rfl (by kernel_rfl) (c':=u.cells) rfl ?_
 intro S1 hl
 refine zg ?_
 exact done_ret (ress_cell rfl (lN (z:=2) (hl.get 0 rfl) rfl) (ress_tmp rfl rfl)) ⟨hl.keep,u,e,rfl⟩
end Go.Proofs.YtmfphenhpkgidaaGreatDoor
namespace Go.Proofs.YtmfphenhpkgidaaGreatDoor
open Go.Cm Go
set_option maxRecDepth 100000
variable{S:St}
def SgOk(p q r t:Int)(C:List Sg)(i:Nat)(s:Sg):Prop:=((s.kind=1∨s.kind=2)∧1≤s.value∧s.value≤8)∨(s.kind=3∧∃j s',i=j+1∧nth C j=some s'∧s'.kind≠3∧¬(s'.kind=2∧abI p q r t s'.value=0))
structure ChkOk(p q r t:Int)(C:List Sg):Prop where
 m:mensE p q r t=0
 s:∀i s,nth C i=some s→SgOk p q r t C i s
noncomputable def cd270:Code:=Tryz.f270.body.getD .skip
theorem spec270(a:Option Addr)(cap:Nat)(C:List Sg)(i:Nat)(hn:C.length≤1000)(hi:i<C.length)(_:Fresh S)(hv:Sgs S (.slice a C.length cap) C):CC Tryz.prog KK 270 [.slice a C.length cap,.int .i64 (i:Int)] S (fun v S'=>Keep S S'∧(((i=0∨∃s',nth C (i-1)=some s'∧s'.kind=3)∧v= .int .i64 (-1))∨∃j s',i=j+1∧nth C j=some s'∧s'.kind≠3∧v= .int .i64 (j:Int))):=by
 refine cc_enter (c:=cd270) (n:=18) Tryz.func270 rfl rfl rfl (by kernel_rfl) rfl rfl ?_
 have hl:=Hold.start S
 refine zS ?_;refine xp_seq rfl ?_;refine xp_seq rfl (xe_toI 15 (fun v S'=>∃B:Bool,v= .bool B∧(B=true→∃j s',i=j+1∧nth C j=some s'∧s'.kind≠3)∧(B=false→i=0∨∃s',nth C (i-1)=some s'∧s'.kind=3)∧HoldG S [S] S' [] []) ?_ ?_)
 ·
  refine zg ?_;refine re_bool (d:=7) rfl (fun h7=>?_) (fun h7=>?_)
  ·
   obtain⟨j,rfl⟩:∃j,i=j+1:=⟨i-1,by have:=of_decide_eq_true h7;omega⟩
   obtain⟨s',hs⟩:=nth_some (show j<C.length by omega)
   obtain⟨b1,o1,cs1,ha,_,hrow,htk⟩:=hv.elem hs
   have ej:((j+1:Nat):Int)-1=(j:Int):=by omega
   refine zg ?_
   rw[ej]
   refine zg ?_
   exact⟨rfl,_,bl rfl,sB,_,rfl,fun h=>⟨j,s',rfl,hs,by simpa using h⟩,fun h=> .inr ⟨s',hs,by simpa using h⟩,hl⟩
  refine zg ?_
  exact⟨rfl,_,bl rfl,sB,false,rfl,nofun,fun _=> .inl (by have:=of_decide_eq_false h7;omega),hl⟩
 rintro v S1 ⟨B,rfl,hB,hB2,hl⟩
 refine zg ?_
 constructor<;>intro h15
 ·
  obtain⟨j,s',rfl,hs,hk⟩:=hB h15
  have ej:((j+1:Nat):Int)-1=(j:Int):=by omega
  refine zg ?_
  exact(z1 rfl ⟨hl.keep,.inr ⟨j,s',rfl,hs,hk,by rw[ej]⟩⟩)
 refine zg ?_
 exact y1 rfl ⟨hl.keep,.inl ⟨hB2 h15,rfl⟩⟩
noncomputable def cd218:Code:=Tryz.f218.body.getD .skip
theorem spec218(p q r t:Int)(a:Option Addr)(cap:Nat)(C:List Sg)(hn:C.length≤1000)(hF:Fresh S)(hv:Sgs S (.slice a C.length cap) C):CC Tryz.prog KK 218 [mV4 p q r t,.slice a C.length cap] S (fun v S'=>Keep S S'∧(∃e:Int,v= .int .i64 e∧(e=0↔ChkOk p q r t C))):=by
 refine cc_enter (c:=cd218) (n:=70) Tryz.func218 rfl rfl rfl (by kernel_rfl) rfl rfl ?_
 have hl:=Hold.start S
 refine zg ?_;refine re_boxL hl rfl rfl rfl rfl rfl rfl ?_
 intro B2 S2 hl
 refine zg ?_
 refine zc hl rfl (spec90 p q r t) ?_;rintro v S1 hk1 rfl hl
 refine zg ?_
 constructor<;>intro h13
 ·
  have hm:mensE p q r t≠0:=by simpa using h13
  refine zg ?_
  exact(z1 rfl ⟨hl.keep,_,rfl,fun h=>absurd h hm,fun h=>h.m⟩)
 have hm:mensE p q r t=0:=by simpa using h13
 refine zg ?_;refine xe_sub (L':=[(6,.int .i64 0),(4,.int .i64 0),(2,ptrTo B2 0),(1,.slice a C.length cap)]) ⟨rfl,rfl,rfl,rfl,trivial⟩ ?_
 refine xp_loop rfl (fun m Le S'=>∃i:Nat,i≤C.length∧m=C.length-i∧(∀j s,j<i→nth C j=some s→SgOk p q r t C j s)∧SubE [(6,.int .i64 (i:Int)),(4,.int .i64 0),(2,ptrTo B2 0),(1,.slice a C.length cap)] Le∧HoldG S [S] S' [(B2,.cells [.int .i64 p,.int .i64 q,.int .i64 r,.int .i64 t] 51 false true [])] []) ?_ (m:=C.length) ⟨0,by omega,by omega,fun j s h=>absurd h (by omega),⟨rfl,rfl,rfl,rfl,trivial⟩,hl⟩
 clear hl;rintro m Le S' ⟨i,hi,rfl,hpre,hsub,hl⟩;refine xe_sub hsub ?_
 refine zg ?_
 constructor<;>intro h18
 ·
  have hlt:i<C.length:=by have:=of_decide_eq_true h18;omega
  obtain⟨s,hs⟩:=nth_some hlt
  obtain⟨b1,o1,cs1,ha,_,hrow,htk⟩:=hv.elem hs
  have hbad:∀{e:Int},e≠0→¬SgOk p q r t C i s→(e=0↔ChkOk p q r t C):=fun he hb=>⟨fun h=>absurd h he,fun h=>absurd (h.s i s hs) hb⟩
  have hgo:SgOk p q r t C i s→∀j u,j<i+1→nth C j=some u→SgOk p q r t C j u:=fun h j u hj hu=>by
   rcases Nat.lt_or_ge j i with h2|h2
   ·exact hpre j u h2 hu
   obtain rfl:j=i:=by omega
   rw[hs]at hu
   cases hu
   exact h
  refine xp_skip rfl ?_;refine xp_seq rfl ?_;refine xp_block rfl ?_;refine zS ?_;refine xp_block rfl ?_;refine xp_seq rfl (xe_toE hl 26 (.bool ((s.kind==1)||(s.kind==2))) ?_ rfl ?_)
  ·
   refine zg ?_
   constructor<;>intro h26
   ·
    refine zg ?_
    exact⟨rfl,bl (by rw[h26];rfl),sB,hl⟩
   refine zg ?_
   exact⟨rfl,bl (by rw[h26];rfl),sB,hl⟩
  intro S1 hl
  refine zi tt rfl ?_
  constructor<;>intro h26
  ·
   have hk:s.kind=1∨s.kind=2:=by simpa using h26
   refine xp_seq rfl (xe_toE hl 42 (.bool (decide (s.value<1)||decide (s.value>8))) ?_ rfl ?_)
   ·
    refine zg ?_;refine re_bool (d:=35) rfl (fun h35=>?_) (fun h35=>?_)
    ·
     refine zg ?_
     exact⟨rfl,bl (by rw[h35];rfl),sB,hl⟩
    refine zg ?_
    exact⟨rfl,bl (by rw[h35];rfl),sB,hl⟩
   intro S1 hl
   refine zg ?_
   constructor<;>intro h42
   ·
    simp only[Bool.or_eq_true,decide_eq_true_eq]at h42
    refine zg ?_
    exact blk_ret (blk_ret (thn_ret (round_ret (blk_ret ((z1 rfl ⟨hl.keep,_,rfl,hbad (by decide) (fun h=>by rcases h with h|h;omega;omega)⟩))))))
   simp only[Bool.or_eq_false_iff,decide_eq_false_iff_not]at h42
   refine zg ?_
   exact⟨C.length-(i+1),by omega,i+1,by omega,rfl,hgo (.inl ⟨hk,by omega⟩),⟨rfl,rfl,rfl,rfl,trivial⟩,hl⟩
  have hk:s.kind≠1∧s.kind≠2:=by simpa using h26
  refine zg ?_
  constructor<;>intro h43
  ·
   have hk3:s.kind=3:=by simpa using h43
   have hl:=hl.mark
   refine zg ?_
   refine zc hl rfl (spec270 a cap C i hn hlt (hl.keep.3 hF) (hv.move (hl.since 1 rfl))) ?_;rintro v S3 hk1 hv3 hl
   rcases hv3 with ⟨hs',rfl⟩|⟨j,s',rfl,hj,hjk,rfl⟩
   ·
    refine zg ?_
    refine thn_ret (blk_ret (blk_ret (thn_ret (round_ret (blk_ret ((z1 rfl ⟨hl.keep,_,rfl,hbad (by decide) (fun h=>?_)⟩)))))))
    rcases h with h|⟨_,j,u,rfl,hu,hu3,_⟩
    ·omega
    rcases hs' with h|⟨s',h,h2⟩
    ·omega
    rw[Nat.add_sub_cancel,hu]at h
    cases h
    exact hu3 h2
   clear ha hrow htk
   obtain⟨b1,o1,cs1,ha,_,hrow,htk⟩:=hv.elem hj
   refine zg ?_
   refine xp_draw (idx:=[0,1,2,3,4,5,6,7,8,9,10,11]) rfl (by kernel_rfl) (by kernel_rfl) ?_;refine zg ?_
   refine zp hl rfl (spec271 p q r t s'.value) ?_;rintro v S1 hk1 rfl hl;refine⟨zt,?_⟩
   refine zA ?_;refine xp_seq rfl (xe_toE hl 69 (.bool ((s'.kind==2)&&(abI p q r t s'.value==0))) ?_ rfl ?_)
   ·
    refine zg ?_;refine re_bool (d:=66) rfl (fun h66=>?_) (fun h66=>?_)
    ·
     refine zg ?_
     exact⟨rfl,bl (by rw[h66];rfl),sB,hl⟩
    refine zg ?_
    exact⟨rfl,bl (by rw[h66];rfl),sB,hl⟩
   intro S1 hl
   refine zg ?_
   constructor<;>intro h69
   ·
    have h69:s'.kind=2∧abI p q r t s'.value=0:=by simpa using h69
    refine zg ?_
    refine blk_ret (blk_ret (thn_ret (round_ret (blk_ret ((z1 rfl ⟨hl.keep,_,rfl,hbad (by decide) (fun h=>?_)⟩))))))
    rcases h with h|⟨_,j2,u,e2,hu,hu3,hu4⟩
    ·omega
    obtain rfl:j=j2:=by omega
    rw[hj]at hu
    cases hu
    exact hu4 h69
   have h69:¬(s'.kind=2∧abI p q r t s'.value=0):=by simpa using h69
   refine zg ?_
   exact⟨C.length-(j+1+1),by omega,j+1+1,by omega,rfl,hgo (.inr ⟨hk3,j,s',rfl,hj,hjk,h69⟩),⟨rfl,rfl,rfl,rfl,trivial⟩,hl.marks (Us:=[S]) (fun T hT=>by rw[List.mem_singleton.1 hT];repeat (first|exact List.mem_cons_self .. |refine List.mem_cons_of_mem _ ?_))⟩
  have hk3:s.kind≠3:=by simpa using h43
  refine zg ?_
  exact blk_ret (blk_ret (thn_ret (round_ret (blk_ret ((z1 rfl ⟨hl.keep,_,rfl,hbad (by decide) (fun h=>by rcases h with h|h;omega;exact hk3 h.1)⟩))))))
 have hi2:i=C.length:=by have:=of_decide_eq_false h18;omega
 refine zg ?_
 exact y1 rfl ⟨hl.keep,0,rfl,fun _=>⟨hm,fun j s hj=>hpre j s (by rw[hi2];exact nth_lt hj) hj⟩,fun _=>rfl⟩
end Go.Proofs.YtmfphenhpkgidaaGreatDoor
namespace Go.Proofs.YtmfphenhpkgidaaGreatDoor
open Go.Cm Go
set_option maxRecDepth 100000
variable{S:St}
def mngN(p q r t:Int)(s:Sg):Nat:=bif s.kind==2 then 1 else bif s.color then 1 else bif (ptI p q r t s.value==2)&&(abI p q r t s.value==0)then 1 else bif ptI p q r t s.value==2 then 2 else bif abI p q r t s.value==0 then 1 else 2
theorem mngN_pos(p q r t:Int)(s:Sg):1≤mngN p q r t s∧mngN p q r t s≤2:=by
 unfold mngN
 cases s.kind==2<;>cases s.color<;>cases (ptI p q r t s.value==2)<;>cases (abI p q r t s.value==0)<;>decide
def lnsF(p q r t:Int)(C:List Sg):Nat→List Nat
 |0=>[]
 |i+1=>lnsF p q r t C i++(match nth C i with
  |some s=>bif s.kind==3 then [match nth C (i-1)with
   |some s'=>mngN p q r t s'
   |none=>1]else []
  |none=>[])
def ndF(C:List Sg):Nat→Nat
 |0=>0
 |i+1=>ndF C i+(match nth C i with
  |some s=>bif s.kind==3 then 0 else 1
  |none=>0)
section
variable{p q r t:Int}{C:List Sg}{i j:Nat}{s s':Sg}
theorem lns_dot(h:nth C (i+1)=some s)(hk:s.kind=3)(h2:nth C i=some s'):lnsF p q r t C (i+1+1)=lnsF p q r t C (i+1)++[mngN p q r t s']:=by
 show lnsF p q r t C (i+1)++(match nth C (i+1)with
  |some s=>bif s.kind==3 then [match nth C (i+1-1)with
   |some s'=>mngN p q r t s'
   |none=>1]else []
  |none=>[])=_
 rw[h,Nat.add_sub_cancel,h2]
 simp only[hk,beq_self_eq_true,cond_true]
theorem lns_no(h:nth C i=some s)(hk:s.kind≠3):lnsF p q r t C (i+1)=lnsF p q r t C i:=by
 show lnsF p q r t C i++_=_
 rw[h]
 have:(s.kind==3)=false:=by simpa using hk
 simp only[this,cond_false,List.append_nil]
theorem lns_all:∀(n:Nat),∀x,x∈lnsF p q r t C n→1≤x∧x≤2
 |0,x,h=>(List.not_mem_nil h).elim
 |n+1,x,h=>by
  rcases List.mem_append.1 h with h|h
  ·exact lns_all n x h
  split at h
  ·rename_i s _
   cases hk:s.kind==3 with
   |true =>
    rw[hk]at h
    rw[List.mem_singleton.1 h]
    split
    ·exact mngN_pos ..
    decide
   |false=>rw[hk]at h;cases h
  cases h
theorem lns_mono:∀{n m:Nat},n≤m→(lnsF p q r t C n).length≤(lnsF p q r t C m).length:=by
 intro n m h
 induction m with
 |zero=>rw[show n=0 by omega];exact Nat.le_refl _
 |succ m ih =>
  rcases Nat.lt_or_ge n (m+1)with h2|h2
  ·have:=ih (by omega)
   rw[lnsF,List.length_append]
   omega
  rw[show n=m+1 by omega]
  exact Nat.le_refl _
theorem lns_le(n:Nat):(lnsF p q r t C n).length≤n:=by
 induction n with
 |zero=>exact Nat.le_refl _
 |succ n ih =>
  rw[lnsF,List.length_append]
  have:(match nth C n with
  |some s=>bif s.kind==3 then [match nth C (n-1)with
   |some s'=>mngN p q r t s'
   |none=>1]else []
  |none=>[]).length≤1:=by
   split
   ·rename_i s _
    cases s.kind==3<;>simp
   simp
  omega
theorem nd_dot(h:nth C i=some s)(hk:s.kind=3):ndF C (i+1)=ndF C i:=by
 show ndF C i+_=_
 rw[h]
 simp only[hk,beq_self_eq_true,cond_true,Nat.add_zero]
theorem nd_no(h:nth C i=some s)(hk:s.kind≠3):ndF C (i+1)=ndF C i+1:=by
 show ndF C i+_=_
 rw[h]
 have:(s.kind==3)=false:=by simpa using hk
 simp only[this,cond_false]
theorem nd_mono:∀{n m:Nat},n≤m→ndF C n≤ndF C m:=by
 intro n m h
 induction m with
 |zero=>rw[show n=0 by omega];exact Nat.le_refl _
 |succ m ih =>
  rcases Nat.lt_or_ge n (m+1)with h2|h2
  ·have:=ih (by omega)
   rw[ndF]
   omega
  rw[show n=m+1 by omega]
  exact Nat.le_refl _
theorem nd_le(n:Nat):ndF C n≤n:=by
 induction n with
 |zero=>exact Nat.le_refl _
 |succ n ih =>
  rw[ndF]
  have:(match nth C n with
  |some s=>bif s.kind==3 then 0 else 1
  |none=>0)≤1:=by
   split
   ·rename_i s _
    cases s.kind==3<;>decide
   decide
  omega
end
structure Rw where
 a:Option Addr
 c:Nat
 C:List Int
def Rw.cells(w:Rw):List Value:=[.slice w.a w.C.length w.c]
def Rw.Ok(S:St)(w:Rw):Prop:=Nums S (.slice w.a w.C.length w.c) w.C
theorem Rw.Ok.move{S T:St}{w:Rw}(h:w.Ok S)(hk:RK S T):w.Ok T:=LsOf.move hk h
abbrev Rws:=LsOf 38 1 Rw.cells
theorem num_row{S:St}{B n:Nat}{C:List Int}(h:RowAt S B 3 ((C.map ic).flatten))(hn:n=C.length):Nums S (.slice (some ⟨B,0,none⟩) n n) C:=LsOf.row (fun _=>rfl) h hn
noncomputable def cd220:Code:=Tryz.f220.body.getD .skip
theorem spec220(p q r t:Int)(s:Sg):CC Tryz.prog KK 220 [mV4 p q r t,s.v] S (fun v S'=>Keep S S'∧(∃av c D,v= .slice av D.length c∧Nums S' (.slice av D.length c) D∧D.length=mngN p q r t s)):=by
 refine cc_enter (c:=cd220) (n:=53) Tryz.func220 rfl rfl rfl (by kernel_rfl) rfl rfl ?_
 have hl:=Hold.start S
 refine zg ?_;refine re_boxL hl rfl rfl rfl rfl rfl rfl ?_
 intro B2 S2 hl
 refine re_boxL hl rfl rfl rfl rfl rfl rfl ?_
 intro B3 S3 hl
 refine zg ?_
 refine zc hl rfl (spec271 p q r t s.value) ?_;rintro v S1 hk1 rfl hl
 refine zg ?_
 constructor<;>intro h14
 ·
  refine zg ?_;refine re_buildSliceR hl rfl rfl rfl rfl rfl Tryz.underlying38 rfl (c:=ic (abI p q r t s.value)) (by kernel_rfl) ?_;intro B19 S1 hr19 hl;refine zg ?_
  exact blk_ret ((z1 rfl ⟨hl.keep,_,_,[_],rfl,num_row hr19 rfl,by unfold mngN;rw[h14];rfl⟩))
 refine zg ?_
 constructor<;>intro h20
 ·
  refine zg ?_;refine re_buildSliceR hl rfl rfl rfl rfl rfl Tryz.underlying38 rfl (c:=ic 0) (by kernel_rfl) ?_;intro B23 S1 hr23 hl;refine zg ?_
  exact blk_ret ((z1 rfl ⟨hl.keep,_,_,[_],rfl,num_row hr23 rfl,by unfold mngN;rw[h14,h20];rfl⟩))
 refine xp_seq rfl (xe_toE hl 24 (.bool ((ptI p q r t s.value==2)&&(abI p q r t s.value==0))) ?_ rfl ?_)
 ·
  refine zg ?_
  refine zc hl rfl (spec178 p q r t s.value) ?_;rintro v S1 hk1 rfl hl
  refine zg ?_;refine re_bool (d:=30) rfl (fun h30=>?_) (fun h30=>?_)
  ·
   refine zg ?_
   exact⟨rfl,bl (by rw[h30];rfl),sB,hl⟩
  refine zg ?_
  exact⟨rfl,bl (by rw[h30];rfl),sB,hl⟩
 intro S1 hl
 refine zg ?_
 constructor<;>intro h24
 ·
  refine zg ?_;refine re_buildSliceR hl rfl rfl rfl rfl rfl Tryz.underlying38 rfl (c:=ic 0) (by kernel_rfl) ?_;intro B34 S1 hr34 hl;refine zg ?_
  exact blk_ret ((z1 rfl ⟨hl.keep,_,_,[_],rfl,num_row hr34 rfl,by unfold mngN;rw[h14,h20,h24];rfl⟩))
 refine zg ?_
 refine zc hl rfl (spec178 p q r t s.value) ?_;rintro v S1 hk1 rfl hl
 refine zg ?_
 constructor<;>intro h35
 ·
  refine zg ?_;refine re_buildSliceR hl rfl rfl rfl rfl rfl Tryz.underlying38 rfl (c:=[.int .i64 0,.int .i64 (abI p q r t s.value)]) (by kernel_rfl) ?_;intro B42 S1 hr42 hl;refine zg ?_
  exact blk_ret ((z1 rfl ⟨hl.keep,_,_,[_,_],rfl,num_row hr42 rfl,by unfold mngN;rw[h14,h20,h24,h35];rfl⟩))
 refine zg ?_
 constructor<;>intro h43
 ·
  refine zg ?_;refine re_buildSliceR hl rfl rfl rfl rfl rfl Tryz.underlying38 rfl (c:=ic s.value) (by kernel_rfl) ?_;intro B48 S1 hr48 hl;refine zg ?_
  exact blk_ret ((z1 rfl ⟨hl.keep,_,_,[_],rfl,num_row hr48 rfl,by unfold mngN;rw[h14,h20,h24,h35,h43];rfl⟩))
 refine zg ?_;refine re_buildSliceR hl rfl rfl rfl rfl rfl Tryz.underlying38 rfl (c:=[.int .i64 (abI p q r t s.value),.int .i64 s.value]) (by kernel_rfl) ?_;intro B52 S1 hr52 hl;refine zg ?_
 exact y1 rfl ⟨hl.keep,_,_,[_,_],rfl,num_row hr52 rfl,by unfold mngN;rw[h14,h20,h24,h35,h43];rfl⟩
def MngR(S':St)(p q r t:Int)(C:List Sg)(v:Value):Prop:=(¬ChkOk p q r t C∧∃e:Int,e≠0∧v=tupV [.slice none 0 0,.int .i64 e])∨(ChkOk p q r t C∧∃av G,v=tupV [.slice av G.length G.length,.int .i64 0]∧Rws S' (.slice av G.length G.length) G∧(∀w,w∈G→w.Ok S')∧G.map (fun w=>w.C.length)=lnsF p q r t C C.length)
abbrev gR(av:Option Addr)(D:List Rw):Gr:=gOf 38 1 Rw.cells (.slice av D.length D.length) D
theorem gR_ok{Ts:List St}{S0 S1:St}{l:List (Nat×Blk)}{av:Option Addr}{D:List Rw}{x:Rw}(h:HoldG S0 Ts S1 l [⟨.slice av (D.length+1) (D.length+1),38,1,(D.map Rw.cells).flatten++x.cells,D.length+1⟩]):HoldG S0 Ts S1 l [gR av (D++[x])]:=by
 unfold gR
 rw[gOf_push]
 exact h
noncomputable def cd180:Code:=Tryz.f180.body.getD .skip
theorem spec180(p q r t:Int)(a:Option Addr)(cap:Nat)(C:List Sg)(hn:C.length≤1000)(hF:Fresh S)(hv:Sgs S (.slice a C.length cap) C):CC Tryz.prog KK 180 [mV4 p q r t,.slice a C.length cap] S (fun v S'=>Keep S S'∧(MngR S' p q r t C v)):=by
 refine cc_enter (c:=cd180) (n:=40) Tryz.func180 rfl rfl rfl (by kernel_rfl) rfl rfl ?_
 have hl:=Hold.start S
 refine zg ?_;refine re_boxL hl rfl rfl rfl rfl rfl rfl ?_
 intro B2 S2 hl
 refine zg ?_
 refine zc hl rfl (spec218 p q r t a cap C hn (hl.keep.3 hF) (hv.move (hl.since 0 rfl))) ?_;rintro v S1 hk1 ⟨e,rfl,he⟩ hl
 refine zg ?_
 constructor<;>intro h14
 ·
  have e0:e≠0:=by simpa using h14
  refine zg ?_
  exact(z2 rfl rfl ⟨hl.keep,.inl ⟨fun h=>e0 (he.2 h),e,e0,rfl⟩⟩)
 have hok:=he.1 (by simpa using h14)
 refine zg ?_
 have hl:=(hl.marks (Us:=[S]) (fun T hT=>by rw[List.mem_singleton.1 hT];repeat (first|exact List.mem_cons_self .. |refine List.mem_cons_of_mem _ ?_))).addG (g:=gR none []) (.inl ⟨rfl,rfl,rfl⟩)
 refine xe_sub (L':=[(8,.int .i64 0),(7,.slice none 0 0),(5,.int .i64 0),(4,.slice none 0 0),(2,ptrTo B2 0),(1,.slice a C.length cap)]) ⟨rfl,rfl,rfl,rfl,rfl,rfl,trivial⟩ ?_
 refine xp_loop rfl (fun m Le S'=>∃(i:Nat) (av:Option Addr) (G:List Rw),i≤C.length∧m=C.length-i∧(∀w,w∈G→w.Ok S')∧G.map (fun w=>w.C.length)=lnsF p q r t C i∧SubE [(8,.int .i64 (i:Int)),(7,.slice av G.length G.length),(5,.int .i64 0),(4,.slice none 0 0),(2,ptrTo B2 0),(1,.slice a C.length cap)] Le∧HoldG S [S] S' [(B2,.cells [.int .i64 p,.int .i64 q,.int .i64 r,.int .i64 t] 51 false true [])] [gR av G]) ?_ (m:=C.length) ⟨0,none,[],by omega,by omega,fun x hx=>(List.not_mem_nil hx).elim,rfl,⟨rfl,rfl,rfl,rfl,rfl,rfl,trivial⟩,hl⟩
 clear hl;rintro m Le S' ⟨i,av,G,hi,rfl,hG,hGl,hsub,hl⟩;refine xe_sub hsub ?_
 have hGn:G.length=(lnsF p q r t C i).length:=by rw[←hGl,List.length_map]
 have hGi:=lns_le (p:=p) (q:=q) (r:=r) (t:=t) (C:=C) i
 refine zg ?_
 constructor<;>intro h19
 ·
  have hlt:i<C.length:=by have:=of_decide_eq_true h19;omega
  obtain⟨s,hs⟩:=nth_some hlt
  obtain⟨b1,o1,cs1,ha,_,hrow,htk⟩:=hv.elem hs
  refine zg ?_
  constructor<;>intro h27
  ·
   have hk3:s.kind=3:=by simpa using h27
   obtain⟨j,s',rfl,hj,hjk⟩:∃j s',i=j+1∧nth C j=some s'∧s'.kind≠3:=by
    rcases hok.s i s hs with h|⟨_,j,u,e,hu,hu2,_⟩
    ·omega
    exact⟨j,u,e,hu,hu2⟩
   have ej:((j+1:Nat):Int)-1=(j:Int):=by omega
   clear ha hrow htk
   obtain⟨b1,o1,cs1,ha,_,hrow,htk⟩:=hv.elem hj
   have hl:=hl.mark
   refine zg ?_;refine xp_draw (idx:=[0,1,2,3,4,5,6,7]) rfl (by kernel_rfl) (by kernel_rfl) ?_;refine zg ?_
   rw[ej]
   refine zg ?_
   refine zp hl rfl (spec220 p q r t s') ?_;rintro v S3 hkk ⟨a2,c2,D,rfl,hDn,hDl⟩ hl;refine⟨zt,?_⟩
   obtain⟨w,hw⟩:∃w:Rw,w=⟨a2,c2,D⟩:=⟨_,rfl⟩
   have hwc:[Value.slice a2 D.length c2]=w.cells:=by rw[hw];rfl
   have hwo:w.Ok S3:=by rw[hw];exact hDn
   have hwl:w.C.length=mngN p q r t s':=by rw[hw];exact hDl
   have hl:=hl.mark
   refine zg ?_;refine re_buildSliceR hl rfl rfl rfl rfl rfl Tryz.underlying116 rfl (c:=w.cells) (by rw[←hwc];kernel_rfl) ?_;intro B37 S1 hr37 hl;refine re_appendG hl 0 rfl rfl (by simp) rfl rfl rfl rfl rfl rfl rfl Tryz.underlying116 Tryz.underlying116 rfl rfl (by kernel_rfl) (src_row_ (n:=1) (cap:=1) (new:=w.cells) hr37 rfl) rfl rfl (by kernel_rfl) (by show G.length+1≤maxNeed;unfold maxNeed;omega) ?_;intro v38 S1 hl
   obtain⟨av2,rfl⟩:∃x,v38= .slice x (G.length+1) (G.length+1):=Grow.is_ (hl.gr _ (List.mem_cons_self ..))
   refine zg ?_
   refine⟨C.length-(j+1+1),by omega,j+1+1,av2,G++[w],by omega,rfl,fun x hx=>?_,?_,⟨rfl,by rw[len_push];rfl,rfl,rfl,rfl,rfl,trivial⟩,gR_ok (hl.marks (Us:=[S]) (fun T hT=>by rw[List.mem_singleton.1 hT];repeat (first|exact List.mem_cons_self .. |refine List.mem_cons_of_mem _ ?_)))⟩
   ·rcases List.mem_append.1 hx with h|h
    ·exact(hG x h).move (hl.since 1 rfl)
    rw[List.mem_singleton.1 h]
    exact hwo.move (hl.since 0 rfl)
   rw[List.map_append,hGl,lns_dot hs hk3 hj,←hwl]
   rfl
  have hk3:s.kind≠3:=by simpa using h27
  refine zg ?_
  exact⟨C.length-(i+1),by omega,i+1,av,G,by omega,rfl,hG,by rw[hGl,lns_no hs hk3],⟨rfl,rfl,rfl,rfl,rfl,rfl,trivial⟩,hl⟩
 have hi2:i=C.length:=by have:=of_decide_eq_false h19;omega
 subst hi2
 refine zg ?_
 exact y2 rfl rfl ⟨hl.keep,.inr ⟨hok,av,G,rfl,Grow.ls (f:=Rw.cells) (fun _=>rfl) (hl.gr _ (List.mem_cons_self ..)),hG,hGl⟩⟩
noncomputable def cd221:Code:=Tryz.f221.body.getD .skip
theorem spec221(a:Option Addr)(cap:Nat)(C:List Int)(x:Int)(hn:C.length≤1000)(_:Fresh S)(hv:Nums S (.slice a C.length cap) C):CC Tryz.prog KK 221 [.slice a C.length cap,.int .i64 x] S (fun v S'=>Keep S S'∧(∃B:Bool,v= .bool B)):=by
 refine cc_enter (c:=cd221) (n:=18) Tryz.func221 rfl rfl rfl (by kernel_rfl) rfl rfl ?_
 have hl:=Hold.start S
 refine zg ?_;refine xe_sub (L':=[(5,.int .i64 0),(4,.bool false),(0,.slice a C.length cap),(1,.int .i64 x)]) ⟨rfl,rfl,rfl,rfl,trivial⟩ ?_
 refine xp_loop rfl (fun m Le S'=>∃i:Nat,i≤C.length∧m=C.length-i∧SubE [(5,.int .i64 (i:Int)),(4,.bool false),(0,.slice a C.length cap),(1,.int .i64 x)] Le∧HoldG S [S] S' [] []) ?_ (m:=C.length) ⟨0,by omega,by omega,⟨rfl,rfl,rfl,rfl,trivial⟩,hl⟩
 clear hl;rintro m Le S' ⟨i,hi,rfl,hsub,hl⟩;refine xe_sub hsub ?_
 refine zg ?_
 constructor<;>intro h9
 ·
  have hlt:i<C.length:=by have:=of_decide_eq_true h9;omega
  obtain⟨y,hy⟩:=nth_some hlt
  obtain⟨b1,o1,cs1,ha,_,hrow,htk⟩:=hv.elem hy
  refine zg ?_
  constructor<;>intro h17
  ·
   refine zg ?_
   exact blk_ret (thn_ret (round_ret (blk_ret ((z1 rfl ⟨hl.keep,_,rfl⟩)))))
  refine zg ?_
  exact⟨C.length-(i+1),by omega,i+1,by omega,rfl,⟨rfl,rfl,rfl,rfl,trivial⟩,hl⟩
 refine zg ?_
 exact y1 rfl ⟨hl.keep,_,rfl⟩
end Go.Proofs.YtmfphenhpkgidaaGreatDoor
namespace Go.Proofs.YtmfphenhpkgidaaGreatDoor
open Go.Cm Go
set_option maxRecDepth 100000
variable{S:St}
structure SeOk(n:Nat)(x:Se):Prop where
 f:0≤x.f
 t:x.f≤x.t∧x.t≤n
 l: -1≤x.l∧x.l<n
 r: -1≤x.r∧x.r<n
noncomputable def cd278:Code:=Tryz.f278.body.getD .skip
theorem spec278(a b:Ti):CC Tryz.prog KK 278 [a.v,b.v] S (fun v S'=>Keep S S'∧(TmR v)):=by
 refine cc_enter (c:=cd278) (n:=19) Tryz.func278 rfl rfl rfl (by kernel_rfl) rfl rfl ?_
 have hl:=Hold.start S
 refine zg ?_;refine re_boxL hl rfl rfl rfl rfl rfl rfl ?_
 intro B2 S2 hl
 refine re_boxL hl rfl rfl rfl rfl rfl rfl ?_
 intro B3 S3 hl
 refine re_allocL hl rfl rfl rfl rfl rfl (z:=[.int .i64 0,.int .i64 0]) (by kernel_rfl) ?_
 intro B4 S4 hl
 refine zg ?_
 refine zc hl rfl (spec280 a b) ?_;rintro v S1 hk1 ⟨t,e,rfl,he⟩ hl
 refine zg ?_;refine re_allocL hl rfl rfl rfl rfl rfl (z:=[.int .i64 0,.int .i64 0]) (by kernel_rfl) ?_
 intro B6 S6 hl
 refine re_storeL hl 0 rfl rfl rfl rfl rfl rfl rfl (by kernel_rfl) (c':=t.cells) rfl ?_
 intro S1 hl
 refine zg ?_
 constructor<;>intro h15
 ·
  refine zg ?_;refine rr rfl (rd_build rfl rfl (v:=aggL [.int .i64 0,.int .i64 0]) (by rfl)) ?_;refine re_storeL hl 1 rfl rfl rfl rfl rfl rfl rfl (by kernel_rfl) (c':=[.int .i64 0,.int .i64 0]) rfl ?_
  intro S1 hl
  refine zg ?_
  exact thn_ret (done_ret (ress_cell rfl (lN (z:=2) (hl.get 1 rfl) rfl) (ress_tmp rfl rfl)) ⟨hl.keep,⟨0,0⟩,_,rfl,fun h=>by cases h⟩)
 refine zg ?_;refine re_storeL hl 1 rfl rfl rfl rfl rfl rfl rfl (by kernel_rfl) (c':=t.cells) rfl ?_
 intro S1 hl
 refine zg ?_
 exact done_ret (ress_cell rfl (lN (z:=2) (hl.get 1 rfl) rfl) (ress_tmp rfl rfl)) ⟨hl.keep,t,e,rfl,he⟩
noncomputable def cd231:Code:=Tryz.f231.body.getD .skip
theorem spec231(u:Ti)(a:Option Addr)(cap:Nat)(C:List It)(x:Se)(hn:C.length≤1000)(hF:Fresh S)(hx:SeOk C.length x)(hv:Its S (.slice a C.length cap) C):CC Tryz.prog KK 231 [u.v,.slice a C.length cap,aggL x.cells] S (fun v S'=>Keep S S'∧(TmR v)):=by
 refine cc_enter (c:=cd231) (n:=83) Tryz.func231 rfl rfl rfl (by kernel_rfl) rfl rfl ?_
 have hl:=Hold.start S
 obtain⟨hf,⟨hft,htn⟩,⟨hl1,hl2⟩,hr1,hr2⟩:=hx
 refine zg ?_;refine re_boxL hl rfl rfl rfl rfl rfl rfl ?_
 intro B3 S3 hl
 refine re_boxL hl rfl rfl rfl rfl rfl rfl ?_
 intro B5 S5 hl
 refine re_allocL hl rfl rfl rfl rfl rfl (z:=[.int .i64 0,.int .i64 0]) (by kernel_rfl) ?_
 intro B6 S6 hl
 refine zg ?_;refine rr rfl (rd_build rfl rfl (v:=aggL [.int .i64 0,.int .i64 1]) (by rfl)) ?_;refine re_allocL hl rfl rfl rfl rfl rfl (z:=[.int .i64 0,.int .i64 0]) (by kernel_rfl) ?_
 intro B8 S8 hl
 refine re_storeL hl 0 rfl rfl rfl rfl rfl rfl rfl (by kernel_rfl) (c':=(Ti.mk 0 1).cells) rfl ?_
 intro S1 hl
 refine zA ?_;refine xp_seq rfl ?_;refine zS ?_;refine xp_block rfl ?_;refine xe_sub (L':=[(9,.int .i64 x.f),(8,ptrTo B8 0),(7,.int .i64 0),(6,ptrTo B6 0),(5,ptrTo B5 0),(3,ptrTo B3 0),(1,.slice a C.length cap)]) ⟨rfl,rfl,rfl,rfl,rfl,rfl,rfl,trivial⟩ ?_
 refine xp_loop rfl (fun m Le S'=>∃(i:Int) (t:Ti),0≤i∧i≤x.t∧m=(x.t-i).toNat∧SubE [(9,.int .i64 i),(8,ptrTo B8 0),(7,.int .i64 0),(6,ptrTo B6 0),(5,ptrTo B5 0),(3,ptrTo B3 0),(1,.slice a C.length cap)] Le∧HoldG S [S] S' [(B8,.cells t.cells 103 false true []),(B6,.cells [.int .i64 0,.int .i64 0] 103 false true []),(B5,.cells x.cells 328 false true []),(B3,.cells u.cells 103 false true [])] []) ?_ (m:=(x.t-x.f).toNat) ⟨x.f,_,hf,hft,rfl,⟨rfl,rfl,rfl,rfl,rfl,rfl,rfl,trivial⟩,hl⟩
 clear hl;rintro m Le S' ⟨i,t,hi0,hi,rfl,hsub,hl⟩;refine xe_sub hsub ?_
 refine zg ?_
 constructor<;>intro h22
 ·
  have hlt:i<x.t:=by have:=of_decide_eq_true h22;omega
  obtain⟨k,rfl,hkn⟩:=int_n hi0 (show i<C.length by omega)
  obtain⟨y,hy⟩:=nth_some hkn
  obtain⟨b1,o1,cs1,ha,_,hrow,htk⟩:=hv.elem hy
  have hl:=hl.mark
  refine zg ?_;refine xp_draw (idx:=[0,1,2,3,4,5,10,6,7,8,9,11,12]) rfl (by kernel_rfl) (by kernel_rfl) ?_;refine zg ?_;refine rp_allocL hF hl rfl rfl rfl rfl rfl (z:=[.int .i64 0,.int .i64 0]) (by kernel_rfl) ?_;intro B10 S10 hl
  refine zp hl rfl (spec277 t y.du) ?_;rintro v S1 hk1 ⟨t2,e,rfl,he⟩ hl;refine⟨zt,?_⟩
  refine zg ?_
  refine rp_storeL hl 0 rfl rfl rfl rfl rfl rfl rfl (by kernel_rfl) (c':=t2.cells) rfl ?_;intro S1 hl;refine⟨zt,?_⟩
  refine zg ?_
  constructor<;>intro h36
  ·
   refine zg ?_;refine rr rfl (rd_build rfl rfl (v:=aggL [.int .i64 0,.int .i64 0]) (by rfl)) ?_;refine zg ?_;refine re_storeL hl 2 rfl rfl rfl rfl rfl rfl rfl (by kernel_rfl) (c':=[.int .i64 0,.int .i64 0]) rfl ?_
   intro S1 hl
   refine zg ?_
   exact thn_ret (blk_ret (thn_ret (round_ret (blk_ret (thn_ret (done_ret (ress_cell rfl (lN (z:=2) (hl.get 2 rfl) rfl) (ress_tmp rfl rfl)) ⟨hl.keep,⟨0,0⟩,_,rfl,fun h=>by rw[h]at h36;cases h36⟩))))))
  refine zg ?_;refine re_storeL hl 1 rfl rfl rfl rfl rfl rfl rfl (by kernel_rfl) (c':=t2.cells) rfl ?_
  intro S1 hl
  refine zg ?_
  exact⟨(x.t-((k:Int)+1)).toNat,by omega,(k:Int)+1,t2,by omega,by omega,rfl,⟨rfl,rfl,rfl,rfl,rfl,rfl,rfl,trivial⟩,hl.tail.marks (Us:=[S]) (fun T hT=>List.mem_cons_of_mem _ hT)⟩
 clear hi hi0 hsub
 refine xp_exit rfl ?_;refine xp_seq rfl (xe_cutR (fun Le S'=>∃t:Ti,SubE [(8,ptrTo B8 0),(7,.int .i64 0),(6,ptrTo B6 0),(5,ptrTo B5 0),(3,ptrTo B3 0),(1,.slice a C.length cap)] Le∧HoldG S [S] S' [(B8,.cells t.cells 103 false true []),(B6,.cells [.int .i64 0,.int .i64 0] 103 false true []),(B5,.cells x.cells 328 false true []),(B3,.cells u.cells 103 false true [])] []) ?_ ?_)
 ·
  refine zg ?_
  constructor<;>intro h42
  ·
   have hx0:0≤x.l:=by have:=of_decide_eq_true h42;omega
   obtain⟨k,hk,hkn⟩:=int_n hx0 (show x.l<C.length by omega)
   obtain⟨y,hy⟩:=nth_some hkn
   obtain⟨b1,o1,cs1,ha,_,hrow,htk⟩:=hv.elem hy
   have hk3:x.l.toNat=k:=by omega
   rw[←hk3]at htk
   have hl:=hl.mark
   refine zg ?_;refine xp_draw (idx:=[0,1,2,3,4,5,6,11,7,8,9,10,12,13]) rfl (by kernel_rfl) (by kernel_rfl) ?_;refine zg ?_;refine rp_allocL hF hl rfl rfl rfl rfl rfl (z:=[.int .i64 0,.int .i64 0]) (by kernel_rfl) ?_;intro B12 S12 hl
   refine zp hl rfl (spec278 t y.af) ?_;rintro v S1 hk1 ⟨t2,e,rfl,he⟩ hl;refine⟨zt,?_⟩
   refine zg ?_
   refine rp_storeL hl 0 rfl rfl rfl rfl rfl rfl rfl (by kernel_rfl) (c':=t2.cells) rfl ?_;intro S1 hl;refine⟨zt,?_⟩
   refine zg ?_
   constructor<;>intro h55
   ·
    refine zg ?_;refine rr rfl (rd_build rfl rfl (v:=aggL [.int .i64 0,.int .i64 0]) (by rfl)) ?_;refine zg ?_;refine re_storeL hl 2 rfl rfl rfl rfl rfl rfl rfl (by kernel_rfl) (c':=[.int .i64 0,.int .i64 0]) rfl ?_
    intro S1 hl
    refine zg ?_
    exact .inr ⟨nofun,thn_ret (done_ret (ress_cell rfl (lN (z:=2) (hl.get 2 rfl) rfl) (ress_tmp rfl rfl)) ⟨hl.keep,⟨0,0⟩,_,rfl,fun h=>by rw[h]at h55;cases h55⟩)⟩
   refine zg ?_;refine re_storeL hl 1 rfl rfl rfl rfl rfl rfl rfl (by kernel_rfl) (c':=t2.cells) rfl ?_
   intro S1 hl
   refine zg ?_
   exact .inl ⟨rfl,t2,⟨rfl,rfl,rfl,rfl,rfl,rfl,trivial⟩,hl.tail.marks (Us:=[S]) (fun T hT=>List.mem_cons_of_mem _ hT)⟩
  refine zg ?_
  exact .inl ⟨rfl,t,⟨rfl,rfl,rfl,rfl,rfl,rfl,trivial⟩,hl⟩
 clear hl t;rintro Le S1 ⟨t,hsub,hl⟩;refine xe_sub hsub ?_;clear hsub
 refine xp_seq rfl (xe_cutR (fun Le S'=>∃t:Ti,SubE [(8,ptrTo B8 0),(7,.int .i64 0),(6,ptrTo B6 0),(5,ptrTo B5 0),(3,ptrTo B3 0),(1,.slice a C.length cap)] Le∧HoldG S [S] S' [(B8,.cells t.cells 103 false true []),(B6,.cells [.int .i64 0,.int .i64 0] 103 false true []),(B5,.cells x.cells 328 false true []),(B3,.cells u.cells 103 false true [])] []) ?_ ?_)
 ·
  refine zg ?_
  constructor<;>intro h61
  ·
   have hx0:0≤x.r:=by have:=of_decide_eq_true h61;omega
   obtain⟨k,hk,hkn⟩:=int_n hx0 (show x.r<C.length by omega)
   obtain⟨y,hy⟩:=nth_some hkn
   obtain⟨b1,o1,cs1,ha,_,hrow,htk⟩:=hv.elem hy
   have hk3:x.r.toNat=k:=by omega
   rw[←hk3]at htk
   have hl:=hl.mark
   refine zg ?_;refine xp_draw (idx:=[0,1,2,3,4,5,6,11,7,8,9,10,12,13]) rfl (by kernel_rfl) (by kernel_rfl) ?_;refine zg ?_;refine rp_allocL hF hl rfl rfl rfl rfl rfl (z:=[.int .i64 0,.int .i64 0]) (by kernel_rfl) ?_;intro B12 S12 hl
   refine zp hl rfl (spec278 t y.be) ?_;rintro v S1 hk1 ⟨t2,e,rfl,he⟩ hl;refine⟨zt,?_⟩
   refine zg ?_
   refine rp_storeL hl 0 rfl rfl rfl rfl rfl rfl rfl (by kernel_rfl) (c':=t2.cells) rfl ?_;intro S1 hl;refine⟨zt,?_⟩
   refine zg ?_
   constructor<;>intro h74
   ·
    refine zg ?_;refine rr rfl (rd_build rfl rfl (v:=aggL [.int .i64 0,.int .i64 0]) (by rfl)) ?_;refine zg ?_;refine re_storeL hl 2 rfl rfl rfl rfl rfl rfl rfl (by kernel_rfl) (c':=[.int .i64 0,.int .i64 0]) rfl ?_
    intro S1 hl
    refine zg ?_
    exact .inr ⟨nofun,thn_ret (done_ret (ress_cell rfl (lN (z:=2) (hl.get 2 rfl) rfl) (ress_tmp rfl rfl)) ⟨hl.keep,⟨0,0⟩,_,rfl,fun h=>by rw[h]at h74;cases h74⟩)⟩
   refine zg ?_;refine re_storeL hl 1 rfl rfl rfl rfl rfl rfl rfl (by kernel_rfl) (c':=t2.cells) rfl ?_
   intro S1 hl
   refine zg ?_
   exact .inl ⟨rfl,t2,⟨rfl,rfl,rfl,rfl,rfl,rfl,trivial⟩,hl.tail.marks (Us:=[S]) (fun T hT=>List.mem_cons_of_mem _ hT)⟩
  refine zg ?_
  exact .inl ⟨rfl,t,⟨rfl,rfl,rfl,rfl,rfl,rfl,trivial⟩,hl⟩
 clear hl t;rintro Le S1 ⟨t,hsub,hl⟩;refine xe_sub hsub ?_;clear hsub
 refine zg ?_
 refine zc hl rfl (spec279 t u) ?_;rintro v S1 hk1 ⟨t2,e,rfl,he⟩ hl
 refine zg ?_;refine re_storeL hl 1 rfl rfl rfl rfl rfl rfl rfl (by kernel_rfl) (c':=t2.cells) rfl ?_
 intro S1 hl
 refine zg ?_
 exact done_ret (ress_cell rfl (lN (z:=2) (hl.get 1 rfl) rfl) (ress_tmp rfl rfl)) ⟨hl.keep,t2,e,rfl,he⟩
end Go.Proofs.YtmfphenhpkgidaaGreatDoor
namespace Go.Proofs.YtmfphenhpkgidaaGreatDoor
open Go.Cm Go
set_option maxRecDepth 100000
variable{S:St}
noncomputable def cd318:Code:=Tryz.f318.body.getD .skip
theorem spec318(a:Option Addr)(cap:Nat)(C:List It)(x:Se)(w:Ti)(hn:C.length≤1000)(_:Fresh S)(hx:SeOk C.length x)(hv:Its S (.slice a C.length cap) C):CC Tryz.prog KK 318 [.slice a C.length cap,aggL x.cells,w.v] S (fun v S'=>Keep S S'∧(∃B:Bool,v= .bool B)):=by
 refine cc_enter (c:=cd318) (n:=31) Tryz.func318 rfl rfl rfl (by kernel_rfl) rfl rfl ?_
 have hl:=Hold.start S
 obtain⟨hf,⟨hft,htn⟩,_⟩:=hx
 refine zg ?_;refine re_boxL hl rfl rfl rfl rfl rfl rfl ?_
 intro B4 S4 hl
 refine re_boxL hl rfl rfl rfl rfl rfl rfl ?_
 intro B5 S5 hl
 refine zg ?_;refine rr rfl (rd_build rfl rfl (v:=aggL [.int .i64 0,.int .i64 1]) (by rfl)) ?_;refine re_allocL hl rfl rfl rfl rfl rfl (z:=[.int .i64 0,.int .i64 0]) (by kernel_rfl) ?_
 intro B7 S7 hl
 refine re_storeL hl 0 rfl rfl rfl rfl rfl rfl rfl (by kernel_rfl) (c':=(Ti.mk 0 1).cells) rfl ?_
 intro S1 hl
 refine zg ?_;refine xe_sub (L':=[(8,.int .i64 x.f),(7,ptrTo B7 0),(6,.bool false),(5,ptrTo B5 0),(4,ptrTo B4 0),(0,.slice a C.length cap)]) ⟨rfl,rfl,rfl,rfl,rfl,rfl,trivial⟩ ?_
 refine xp_loop rfl (fun m Le S'=>∃(i:Int) (t:Ti),0≤i∧i≤x.t∧m=(x.t-i).toNat∧SubE [(8,.int .i64 i),(7,ptrTo B7 0),(6,.bool false),(5,ptrTo B5 0),(4,ptrTo B4 0),(0,.slice a C.length cap)] Le∧HoldG S [S] S' [(B7,.cells t.cells 103 false true []),(B5,.cells w.cells 103 false true []),(B4,.cells x.cells 328 false true [])] []) ?_ (m:=(x.t-x.f).toNat) ⟨x.f,_,hf,hft,rfl,⟨rfl,rfl,rfl,rfl,rfl,rfl,trivial⟩,hl⟩
 clear hl;rintro m Le S' ⟨i,t,hi0,hi,rfl,hsub,hl⟩;refine xe_sub hsub ?_
 refine zg ?_
 constructor<;>intro h15
 ·
  have hlt:i<x.t:=by have:=of_decide_eq_true h15;omega
  obtain⟨k,rfl,hkn⟩:=int_n hi0 (show i<C.length by omega)
  obtain⟨y,hy⟩:=nth_some hkn
  obtain⟨b1,o1,cs1,ha,_,hrow,htk⟩:=hv.elem hy
  refine zg ?_;refine xp_draw (idx:=[0,1,2,3,4,5,6,7,8,9,10]) rfl (by kernel_rfl) (by kernel_rfl) ?_;refine zg ?_
  refine zp hl rfl (spec277 t y.du) ?_;rintro v S1 hk1 ⟨t2,e,rfl,he⟩ hl;refine⟨zt,?_⟩
  refine zg ?_
  refine rp_storeL hl 0 rfl rfl rfl rfl rfl rfl rfl (by kernel_rfl) (c':=t2.cells) rfl ?_;intro S1 hl;refine⟨zt,?_⟩
  refine zg ?_
  constructor<;>intro h30
  ·
   refine zg ?_
   exact blk_ret (thn_ret (round_ret (blk_ret ((z1 rfl ⟨hl.keep,_,rfl⟩)))))
  refine zg ?_
  exact⟨(x.t-((k:Int)+1)).toNat,by omega,(k:Int)+1,t2,by omega,by omega,rfl,⟨rfl,rfl,rfl,rfl,rfl,rfl,trivial⟩,hl⟩
 refine zg ?_
 exact y1 rfl ⟨hl.keep,_,rfl⟩
noncomputable def cd319:Code:=Tryz.f319.body.getD .skip
theorem spec319(a:Option Addr)(cap:Nat)(C:List It)(x:Se)(w:Ti)(hn:C.length≤1000)(_:Fresh S)(hx:SeOk C.length x)(hv:Its S (.slice a C.length cap) C):CC Tryz.prog KK 319 [.slice a C.length cap,aggL x.cells,w.v] S (fun v S'=>Keep S S'∧(∃B:Bool,v= .bool B)):=by
 refine cc_enter (c:=cd319) (n:=64) Tryz.func319 rfl rfl rfl (by kernel_rfl) rfl rfl ?_
 have hl:=Hold.start S
 obtain⟨hf,⟨hft,htn⟩,_⟩:=hx
 refine zg ?_;refine re_boxL hl rfl rfl rfl rfl rfl rfl ?_
 intro B4 S4 hl
 refine re_boxL hl rfl rfl rfl rfl rfl rfl ?_
 intro B5 S5 hl
 refine zg ?_;refine rr rfl (rd_build rfl rfl (v:=aggL [.int .i64 0,.int .i64 1]) (by rfl)) ?_;refine re_allocL hl rfl rfl rfl rfl rfl (z:=[.int .i64 0,.int .i64 0]) (by kernel_rfl) ?_
 intro B7 S7 hl
 refine re_storeL hl 0 rfl rfl rfl rfl rfl rfl rfl (by kernel_rfl) (c':=(Ti.mk 0 1).cells) rfl ?_
 intro S1 hl
 refine zg ?_;refine xe_sub (L':=[(8,.int .i64 x.f),(7,ptrTo B7 0),(6,.bool false),(5,ptrTo B5 0),(4,ptrTo B4 0),(0,.slice a C.length cap)]) ⟨rfl,rfl,rfl,rfl,rfl,rfl,trivial⟩ ?_
 refine xp_loop rfl (fun m Le S'=>∃(i:Int) (t:Ti),0≤i∧i≤x.t∧m=(x.t-i).toNat∧SubE [(8,.int .i64 i),(7,ptrTo B7 0),(6,.bool false),(5,ptrTo B5 0),(4,ptrTo B4 0),(0,.slice a C.length cap)] Le∧HoldG S [S] S' [(B7,.cells t.cells 103 false true []),(B5,.cells w.cells 103 false true []),(B4,.cells x.cells 328 false true [])] []) ?_ (m:=(x.t-x.f).toNat) ⟨x.f,_,hf,hft,rfl,⟨rfl,rfl,rfl,rfl,rfl,rfl,trivial⟩,hl⟩
 clear hl;rintro m Le S' ⟨i,t,hi0,hi,rfl,hsub,hl⟩;refine xe_sub hsub ?_
 refine zg ?_
 constructor<;>intro h19
 ·
  have hlt:i<x.t:=by have:=of_decide_eq_true h19;omega
  obtain⟨k,rfl,hkn⟩:=int_n hi0 (show i<C.length by omega)
  obtain⟨y,hy⟩:=nth_some hkn
  obtain⟨b1,o1,cs1,ha,_,hrow,htk⟩:=hv.elem hy
  refine zg ?_;refine xp_draw (idx:=[0,1,2,3,4,5,6,7,8,9,10]) rfl (by kernel_rfl) (by kernel_rfl) ?_;refine zg ?_
  refine zp hl rfl (spec277 t y.du) ?_;rintro v S1 hk1 ⟨t2,e,rfl,he⟩ hl;refine⟨zt,?_⟩
  refine zg ?_
  refine rp_storeL hl 0 rfl rfl rfl rfl rfl rfl rfl (by kernel_rfl) (c':=t2.cells) rfl ?_;intro S1 hl;refine⟨zt,?_⟩
  refine zg ?_
  exact⟨(x.t-((k:Int)+1)).toNat,by omega,(k:Int)+1,t2,by omega,by omega,rfl,⟨rfl,rfl,rfl,rfl,rfl,rfl,trivial⟩,hl⟩
 clear hi hi0 hsub
 refine zg ?_;refine rr rfl (rd_build rfl rfl (v:=aggL [.int .i64 0,.int .i64 1]) (by rfl)) ?_;refine re_allocL hl rfl rfl rfl rfl rfl (z:=[.int .i64 0,.int .i64 0]) (by kernel_rfl) ?_
 intro B9 S9 hl
 refine re_storeL hl 0 rfl rfl rfl rfl rfl rfl rfl (by kernel_rfl) (c':=(Ti.mk 0 1).cells) rfl ?_
 intro S1 hl
 refine zg ?_;refine xe_sub (L':=[(10,.int .i64 x.f),(9,ptrTo B9 0),(7,ptrTo B7 0),(6,.bool false),(5,ptrTo B5 0),(4,ptrTo B4 0),(0,.slice a C.length cap)]) ⟨rfl,rfl,rfl,rfl,rfl,rfl,rfl,trivial⟩ ?_
 refine xp_loop rfl (fun m Le S'=>∃(i:Int) (t2:Ti),0≤i∧i≤x.t∧m=(x.t-i).toNat∧SubE [(10,.int .i64 i),(9,ptrTo B9 0),(7,ptrTo B7 0),(6,.bool false),(5,ptrTo B5 0),(4,ptrTo B4 0),(0,.slice a C.length cap)] Le∧HoldG S [S] S' [(B9,.cells t2.cells 103 false true []),(B7,.cells t.cells 103 false true []),(B5,.cells w.cells 103 false true []),(B4,.cells x.cells 328 false true [])] []) ?_ (m:=(x.t-x.f).toNat) ⟨x.f,_,hf,hft,rfl,⟨rfl,rfl,rfl,rfl,rfl,rfl,rfl,trivial⟩,hl⟩
 clear hl;rintro m Le S' ⟨i,t2,hi0,hi,rfl,hsub,hl⟩;refine xe_sub hsub ?_
 refine zg ?_
 constructor<;>intro h38
 ·
  have hlt:i<x.t:=by have:=of_decide_eq_true h38;omega
  obtain⟨k,rfl,hkn⟩:=int_n hi0 (show i<C.length by omega)
  obtain⟨y,hy⟩:=nth_some hkn
  obtain⟨b1,o1,cs1,ha,_,hrow,htk⟩:=hv.elem hy
  refine zg ?_
  refine zc hl rfl (spec280 t t2) ?_;rintro v S1 hk1 ⟨t3,e,rfl,he⟩ hl
  refine zg ?_;refine re_allocL hl rfl rfl rfl rfl rfl (z:=[.int .i64 0,.int .i64 0]) (by kernel_rfl) ?_
  intro B11 S11 hl
  refine re_storeL hl 0 rfl rfl rfl rfl rfl rfl rfl (by kernel_rfl) (c':=t3.cells) rfl ?_
  intro S1 hl
  refine zA ?_;refine xp_seq rfl ?_;refine xp_seq rfl (xe_toW hl 53 Value.bool ?_ rfl ?_)
  ·
   refine zg ?_;refine re_bool (d:=49) rfl (fun h49=>?_) (fun h49=>?_)
   ·
    refine zg ?_
    exact⟨rfl,⟨_,bl rfl⟩,sB,hl⟩
   refine zg ?_
   exact⟨rfl,⟨_,bl rfl⟩,sB,hl⟩
  intro q53 S1 hl
  refine zg ?_
  constructor<;>intro h53
  ·
   refine zg ?_
   exact thn_ret (blk_ret (thn_ret (round_ret (blk_ret ((z1 rfl ⟨hl.keep,_,rfl⟩))))))
  refine zg ?_;refine xp_draw (idx:=[0,1,2,3,4,5,6,7,8,9,10]) rfl (by kernel_rfl) (by kernel_rfl) ?_;refine zg ?_
  refine zp hl rfl (spec277 t2 y.du) ?_;rintro v S1 hk1 ⟨t4,e2,rfl,he2⟩ hl;refine⟨zt,?_⟩
  refine zg ?_
  refine rp_storeL hl 1 rfl rfl rfl rfl rfl rfl rfl (by kernel_rfl) (c':=t4.cells) rfl ?_;intro S1 hl;refine⟨zt,?_⟩
  refine zg ?_
  exact⟨(x.t-((k:Int)+1)).toNat,by omega,(k:Int)+1,t4,by omega,by omega,rfl,⟨rfl,rfl,rfl,rfl,rfl,rfl,rfl,trivial⟩,hl.tail⟩
 refine zg ?_
 exact y1 rfl ⟨hl.keep,_,rfl⟩
structure At(S:St)(b:Nat)(x:Blk):Prop where
 at_:∀{T:St},Keep S T→T.get b=some x
structure Sta where
 u:Ti
 k:Int
 al:Option Addr
 cl:Nat
 L:List It
 an:Option Addr
 N:List It
 ag:Option Addr
 cg:Nat
 G:List Se
 am:Option Addr
 M:List Int
def Sta.cells(x:Sta):List Value:=[.int .i64 x.u.n,.int .i64 x.u.d,.int .i64 x.k,.slice x.al x.L.length x.cl,.slice x.an x.N.length x.N.length,.slice x.ag x.G.length x.cg,.slice x.am x.M.length x.M.length]
abbrev Sta.blk(x:Sta):Blk:= .cells x.cells 334 false true []
structure Sta.Fit(x:Sta):Prop where
 k: -50≤x.k∧x.k≤50
 n:x.N.length=x.L.length
 l:x.L.length≤1000
 g:x.G.length≤2001
 s:∀s,s∈x.G→SeOk x.L.length s
structure Sta.Ok(S:St)(x:Sta):Prop where
 l:Its S (.slice x.al x.L.length x.cl) x.L
 n:Its S (.slice x.an x.N.length x.N.length) x.N
 g:Ses S (.slice x.ag x.G.length x.cg) x.G
 m:Nums S (.slice x.am x.M.length x.M.length) x.M
theorem Sta.Ok.move{S T:St}{x:Sta}(h:x.Ok S)(hk:RK S T):x.Ok T:=⟨h.l.move hk,h.n.move hk,h.g.move hk,h.m.move hk⟩
noncomputable def cd317:Code:=Tryz.f317.body.getD .skip
theorem spec317(B:Nat)(x:Sta)(i:Int)(hi:0≤i∧i<x.L.length)(_:Fresh S)(hd:At S B x.blk)(hx:x.Fit)(hk:x.Ok S):CC Tryz.prog KK 317 [ptrTo B 0,.int .i64 i] S (fun v S'=>Keep S S'∧(∃B:Bool,v= .bool B)):=by
 refine cc_enter (c:=cd317) (n:=25) Tryz.func317 rfl rfl rfl (by kernel_rfl) rfl rfl ?_
 have hl:=Hold.start S
 obtain⟨j,rfl,hj⟩:=int_n hi.1 hi.2
 have hjN:j<x.N.length:=by have:=hx.n;omega
 obtain⟨y,hy⟩:=nth_some hjN
 obtain⟨b1,o1,cs1,ha,_,hrow,htk⟩:=hk.n.elem hy
 refine zg ?_;refine xp_draw (idx:=[0,1,2,3,4,5,6,7,8,9,10,11,12,13,14,15,16,17]) rfl (by kernel_rfl) (by kernel_rfl) ?_;refine zg ?_
 refine zp hl rfl (spec339 y.du x.u) ?_;rintro v S1 hk1 ⟨c,e,rfl⟩ hl;refine⟨zt,?_⟩
 refine zg ?_
 exact y1 rfl ⟨hl.keep,_,rfl⟩
end Go.Proofs.YtmfphenhpkgidaaGreatDoor

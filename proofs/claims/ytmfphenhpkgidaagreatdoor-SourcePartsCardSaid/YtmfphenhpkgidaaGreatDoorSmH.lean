/-
  A source: SourceParts returns true for all sources.
-/
import Derived.Test.YtmfphenhpkgidaaGreatDoorSmG
import Derived.Test.YtmfphenhpkgidaaGreatDoorSmB
import Derived.Test.YtmfphenhpkgidaaGreatDoorSp4
import Derived.Test.YtmfphenhpkgidaaGreatDoorSp3
import Derived.Test.YtmfphenhpkgidaaGreatDoorCards
import Derived.Test.YtmfphenhpkgidaaGreatDoorTie
import Derived.WalkKit
import Derived.ProofKit
import Derived.OpenShut
import Derived.Deep.DeepHandedRow
namespace Go.Proofs.YtmfphenhpkgidaaGreatDoor
open Go.Cm Go
set_option maxRecDepth 100000
variable{S:St}
theorem cc_known_{P:Program}{K:Known}{f:FuncId}{args:List Value}{S:St}{v:Value}(h:K.call f args S=some v):CC P K f args S fun w S'=>Keep S S'∧w=v:=⟨0,v,S,by unfold enterF;rw[h],Keep.refl S,rfl⟩
theorem same_self(n:List UInt8)(L:List Spt):sameF n n L L=true:=by
 unfold sameF
 rw[sameBytes_refl,decide_eq_true rfl]
 rfl
theorem small_nm{nm:List UInt8}{L:List Spt}{most:Int}(h:smallF nm L most=true):nm.length≤100:=by
 unfold smallF bigB at h
 simp at h
 omega
theorem small_24{nm:List UInt8}{L:List Spt}(h:smallF nm L 24=true)(h0:(choE nm L).2=0):L.length≤24:=by
 have h1:=cho_ok h0
 have h1:(checkF nm L).1=0:=by simpa using h1
 have h2:L.length≤400:=by
  unfold checkF at h1
  cases hb:!nameF nm with
  |true=>rw[hb]at h1;cases h1
  |false =>
   cases hc:decide ((L.length:Int)>400)with
   |true=>rw[hb,hc]at h1;cases h1
   |false =>
    have:=of_decide_eq_false hc
    omega
 unfold smallF bigB at h
 simp at h
 omega
theorem pts_uni{S':St}{nm:ByteArray}{L:List Spt}{v:Value}(h:PtsR S' nm L v):∃a c P,v=tupV [.slice a P.length c,.int .i64 (choE nm.data.toList L).2]∧Prs nm S' (.slice a P.length c) P∧(∀x,x∈P→x.Ok S')∧P.map Pr.C=(if(choE nm.data.toList L).2=0 then ptsN nm.data.toList L (prN L)else [])∧P.length≤4096∧∀x,x∈P→x.C.length≤1000:=by
 rcases h with ⟨h0,rfl⟩|⟨h0,av,P,rfl,h1,h2,h3,h4,h5⟩
 ·exact⟨none,0,[],rfl,LsOf.nil,fun x hx=>(List.not_mem_nil hx).elim,by rw[if_neg h0];rfl,by simp,fun x hx=>(List.not_mem_nil hx).elim⟩
 exact⟨av,P.length,P,by rw[h0],h1,h2,by rw[if_pos h0];exact h3,h4,h5⟩
noncomputable def cd6:Code:=Tryz.f6.body.getD .skip
set_option maxHeartbeats 4000000 in
theorem spec6(nm:ByteArray)(a:Option Addr)(cap:Nat)(L:List Spt)(hF:Fresh S)(hv:Spots S (.slice a L.length cap) L):CC Tryz.prog KK 6 [aggL [.string nm,.slice a L.length cap]] S (fun v S'=>Keep S S'∧(∃B:Bool,v= .bool B∧(B=true→smallF nm.data.toList L 24=true))):=by
 refine cc_enter (c:=cd6) (n:=49) Tryz.func6 rfl rfl rfl (by kernel_rfl) rfl rfl ?_
 have hl:=Hold.start S
 refine zg ?_;refine re_boxL hl rfl rfl rfl rfl rfl rfl ?_
 intro B1 S1 hl
 refine zg ?_
 refine zc hl rfl (spec26 nm a cap L 24 (hv.move (hl.since 0 rfl))) ?_;rintro v S2 hk1 rfl hl
 refine rr rfl (rd_un rfl rfl rfl) ?_;refine zg ?_
 constructor<;>intro h12
 ·
  refine zg ?_
  exact(z1 rfl ⟨hl.keep,_,rfl,nofun⟩)
 have hsm:smallF nm.data.toList L 24=true:=by simpa using h12
 obtain⟨hn,hs⟩:=small_le hsm
 have hnm:=small_nm hsm
 have hs1:∀x,x∈L→x.signs.length≤1000:=fun x hx=>Nat.le_trans (hs x hx) (by omega)
 refine zg ?_
 refine zc hl rfl (spec12 nm a cap L (by omega) (by omega) hs1 (hv.move (hl.since 0 rfl))) ?_;rintro v S3 hk1 rfl hl
 refine zg ?_
 constructor<;>intro h19
 ·
  refine zg ?_
  exact(z1 rfl ⟨hl.keep,_,rfl,fun _=>hsm⟩)
 refine zg ?_
 constructor<;>intro h23
 ·
  refine zg ?_
  exact(z1 rfl ⟨hl.keep,_,rfl,fun _=>hsm⟩)
 refine zg ?_
 refine zc hl rfl (spec14 nm a cap L (by omega) (by omega) hs1 (hl.keep.3 hF) (hv.move (hl.since 0 rfl))) ?_;rintro v S4 hk1 hR hl
 obtain⟨ap,cp,P,rfl,hP,hPo,_,hPl,hPs⟩:=pts_uni hR
 have hl:=hl.mark
 refine zA ?_;refine xp_seq rfl ?_;refine zS ?_;refine xp_block rfl ?_;refine xe_sub (L':=[(7,.int .i64 0),(5,.slice ap P.length cp),(2,.bool false)]) ⟨rfl,rfl,rfl,trivial⟩ ?_
 refine xp_loop rfl (fun m Le S'=>∃i:Nat,i≤P.length∧m=P.length-i∧SubE [(7,.int .i64 (i:Int)),(5,.slice ap P.length cp),(2,.bool false)] Le∧HoldG S [S4,S] S' [(B1,.cells [.string nm,.slice a L.length cap] 24 false true [])] []) ?_ (m:=P.length) ⟨0,by omega,by omega,⟨rfl,rfl,rfl,trivial⟩,hl⟩
 clear hl;rintro m Le S' ⟨i,hi,rfl,hsub,hl⟩;refine xe_sub hsub ?_
 refine zg ?_
 constructor<;>intro h32
 ·
  have hlt:i<P.length:=by have:=of_decide_eq_true h32;omega
  obtain⟨y,hy⟩:=nth_some hlt
  obtain⟨b1,o1,cs1,ha,_,hrow,htk⟩:=(hP.move (hl.since 0 rfl)).elem hy
  refine zg ?_
  refine zc hl rfl (spec27 nm y.a y.c y.C (by omega) (hPs y (nth_mem hy)) (hl.keep.3 hF) ((hPo y (nth_mem hy)).move (hl.since 0 rfl))) ?_;rintro v S5 hk1 ⟨c,e,rfl⟩ hl
  refine zA ?_;refine xp_seq rfl (xe_toW hl 48 Value.bool ?_ rfl ?_)
  ·
   refine zg ?_;refine re_bool (d:=45) rfl (fun h45=>?_) (fun h45=>?_)
   ·
    refine zg ?_
    exact⟨rfl,⟨_,bl rfl⟩,sB,hl⟩
   refine zg ?_
   exact⟨rfl,⟨_,bl rfl⟩,sB,hl⟩
  clear hl;intro q48 S6 hl
  refine zg ?_
  constructor<;>intro h48
  ·
   refine zg ?_
   exact blk_ret (thn_ret (round_ret (blk_ret ((z1 rfl ⟨hl.keep,_,rfl,fun _=>hsm⟩)))))
  refine zg ?_
  exact⟨P.length-(i+1),by omega,i+1,by omega,rfl,⟨rfl,rfl,rfl,trivial⟩,hl⟩
 refine zg ?_
 exact y1 rfl ⟨hl.keep,_,rfl,fun _=>hsm⟩
noncomputable def cd3:Code:=Tryz.f3.body.getD .skip
set_option maxHeartbeats 4000000 in
theorem spec3(nm:ByteArray)(a:Option Addr)(cap:Nat)(L:List Spt)(hF:Fresh S)(hG:Gl S)(hv:Spots S (.slice a L.length cap) L):CC Tryz.prog KK 3 [aggL [.string nm,.slice a L.length cap]] S (fun v S'=>Keep S S'∧(v= .bool true)):=by
 refine cc_enter (c:=cd3) (n:=88) Tryz.func3 rfl rfl rfl (by kernel_rfl) rfl rfl ?_
 have hl:=Hold.start S
 refine zg ?_;refine re_boxL hl rfl rfl rfl rfl rfl rfl ?_
 intro B1 S1 hl
 refine zg ?_
 refine zc hl rfl (spec6 nm a cap L (hl.keep.3 hF) (hv.move (hl.since 0 rfl))) ?_;rintro v S2 hk1 ⟨B,rfl,hB⟩ hl
 refine rr rfl (rd_un rfl rfl rfl) ?_;refine zg ?_
 constructor<;>intro h18
 ·
  refine zg ?_
  refine zc hl rfl (cc_known_ rfl) ?_;rintro v S3 hk1 rfl hl
  refine zg ?_
  exact(z1 rfl ⟨hl.keep,rfl⟩)
 have hsm:=hB (by simpa using h18)
 obtain⟨hn,hs⟩:=small_le hsm
 have hnm:=small_nm hsm
 have hs1:∀x,x∈L→x.signs.length≤1000:=fun x hx=>Nat.le_trans (hs x hx) (by omega)
 refine zg ?_
 refine zc hl rfl (spec8 nm a cap L (by omega) hs1 (hl.keep.3 hF) (hv.move (hl.since 0 rfl))) ?_;rintro v S3 hk3 ⟨a3,rfl,hw⟩ hl
 have hl:=hl.mark
 refine re_allocL hl rfl rfl rfl rfl rfl (z:=[.string ⟨#[]⟩,.slice none 0 0]) (by kernel_rfl) ?_
 intro B3 S4 hl
 refine re_storeL hl 0 rfl rfl rfl rfl rfl rfl rfl (by kernel_rfl) (c':=[.string nm,.slice a3 L.length L.length]) rfl ?_
 intro S5 hl
 refine zg ?_
 refine zc hl rfl (spec9 nm a3 L.length L (by omega) hs1 (hG.keep hl.keep) (hw.move (hl.since 0 rfl))) ?_;rintro v S6 hk6 rfl hl
 refine zg ?_
 refine zc hl rfl (spec10 nm a cap L (by omega) (by omega) hs1 (hv.move (hl.since 1 rfl))) ?_;rintro v S7 hk7 rfl hl
 refine zg ?_
 refine zc hl rfl (spec11 nm a3 L.length L (by omega) hs1 (hG.keep hl.keep) (hw.move (hl.since 0 rfl))) ?_;rintro v S8 hk8 rfl hl
 refine zg ?_
 refine zc hl rfl (spec12 nm a cap L (by omega) (by omega) hs1 (hv.move (hl.since 1 rfl))) ?_;rintro v S9 hk9 rfl hl
 refine zg ?_
 refine zc hl rfl (spec13 nm a3 L.length L (by omega) (by omega) (small_24 hsm) hs1 (hl.keep.3 hF) (hG.keep hl.keep) (hw.move (hl.since 0 rfl))) ?_;rintro v S10 hk10 hR hl
 obtain⟨ap,cp,P,rfl,hP,hPo,hPm,hPl,hPs⟩:=pts_uni hR
 clear hR
 have hl:=hl.mark
 refine zg ?_
 refine zc hl rfl (spec14 nm a cap L (by omega) (by omega) hs1 (hl.keep.3 hF) (hv.move (hl.since 2 rfl))) ?_;rintro v S11 hk11 hR hl
 obtain⟨aq,cq,Q,rfl,hQ,hQo,hQm,hQl,hQs⟩:=pts_uni hR
 clear hR
 have hPQ:P.map Pr.C=Q.map Pr.C:=hPm.trans hQm.symm
 have hl:=hl.mark
 refine zA ?_;refine xp_seq rfl (xe_cut (fun Le S'=>SubE [(2,.bool true)] Le∧Keep S S') ?_ ?_)
 ·
  refine zg ?_;refine re_bool (d:=55) rfl (fun h55=>?_) (fun h55=>?_)
  ·
   refine zg ?_;refine re_bool (d:=60) rfl (fun h60=>?_) (fun h60=>?_)
   ·
    refine zg ?_;refine re_bool (d:=65) rfl (fun h65=>?_) (fun h65=>?_)
    ·
     refine zg ?_;refine re_bool (d:=70) rfl (fun h70=>?_) (fun h70=>?_)
     ·
      refine zg ?_
      refine zc hl rfl (spec15 nm ap aq cp cq P Q (by omega) hPs hPQ (hl.keep.3 hF) (hP.move (hl.since 1 rfl)) (hQ.move (hl.since 0 rfl)) (fun x hx=>(hPo x hx).move (hl.since 1 rfl)) (fun x hx=>(hQo x hx).move (hl.since 0 rfl))) ?_;rintro v S12 hk12 rfl hl
      refine zg ?_;refine re_bool (d:=80) rfl (fun h80=>?_) (fun h80=>?_)
      ·
       refine zg ?_
       refine zc hl rfl (spec16 nm nm a3 a L.length cap L L (by omega) hs1 (hw.move (hl.since 2 rfl)) (hv.move (hl.since 3 rfl))) ?_;rintro v S13 hk13 rfl hl
       rw[same_self]
       refine zg ?_
       refine zc hl rfl (cc_known_ rfl) ?_;rintro v S14 hk14 rfl hl
       refine zg ?_
       exact⟨rfl,⟨rfl,trivial⟩,hl.keep⟩
      simp at h80
     simp at h70
    simp at h65
   simp at h60
  simp at h55
 clear hl;rintro Le S' ⟨hsub,hk⟩;refine xe_sub hsub ?_
 have hl:=Hold.start S'
 refine zg ?_
 exact y1 rfl ⟨hk,rfl⟩
end Go.Proofs.YtmfphenhpkgidaaGreatDoor
namespace Go.Proofs.YtmfphenhpkgidaaGreatDoor
open Go.Cm Go
set_option maxRecDepth 100000
variable{S:St}
theorem known_M{W:World}(h:Met W):KnownSound Tryz.prog KK W:=by
 refine⟨ext_sound _,fun f args S v hv=>?_⟩
 simp only[KK,kk,callM]at hv
 split at hv
 ·cases hb:Nat.beq f 7 with
  |true =>
   rw[hb]at hv
   cases hv
   obtain rfl:=of_nbeq hb
   exact⟨fun ρ=> .bool _,Tryz.f7,_,Tryz.func7,bdA7,by kernel_rfl,zeroKnown fun w hk=>true_A (met_later hk h)⟩
  |false =>
   rw[hb]at hv
   cases hv
 cases hv
theorem globals3:Tryz.prog.globals.size=3:=by kernel_rfl
theorem start_gl:Gl (startS listed Tryz.prog.globals.size) :=
 ⟨Nat.le_of_ble_eq_true (show Nat.ble (0+1) Tryz.prog.globals.size=true by kernel_rfl),by kernel_rfl⟩
theorem start_fresh:Fresh (startS listed Tryz.prog.globals.size):=by
 intro b hb
 cases h:(startS listed Tryz.prog.globals.size).get b with
 |none=>rfl
 |some B =>
  obtain⟨l,hl,_⟩:=start_get Tryz.prog.globals.size listed b B h
  have hb':3≤b:=globals3▸hb
  rcases listed_eq b l hl with ⟨rfl,_⟩|⟨rfl,_⟩|⟨rfl,_⟩<;>omega
theorem vr_agg{ρ:Rmap}{x y:Value}{v:Value}(h:VRs ρ [x,y] v.cells.toList):VR ρ (aggL [x,y]) v:=by
 cases v with
 |agg cs=>exact .agg h.1 h.2
 |_=>exact absurd h.1 (by simp[Value.cells])
theorem join1{W:World}(hm:Met W){H:Type}{enc:TypeId×Value→H}{v1:Value}{d1:DataW H}{p1:List MemPlace}
  (h1:DataW.Trod enc Tryz.prog W 0 (fun _=>true) true 24 v1 d1 p1)
  {f:FuncId}{fn:Func}{c:Code}(hf:Tryz.prog.funcs[f]?=some fn)(hb:fn.body=some c)(hnm:(fn.name== "runtime.NumGoroutine")=false)
  (spec:∀(S:St) (n1:ByteArray) (a1:Option Addr) (cap1:Nat) (L1:List Spt),Fresh S→Gl S→Spots S (.slice a1 L1.length cap1) L1 →
   CC Tryz.prog KK f [aggL [.string n1,.slice a1 L1.length cap1]] S fun v _=>v= .bool true) :
  Calls Tryz.prog f #[v1] W fun e w=>e= .returned (.bool true)∧Kept W w:=by
 obtain⟨fuel1,h1⟩:=h1
 have hsim:=start_sim (P:=Tryz.prog) (size_le hm) hm listed_flat
 obtain⟨ρ1,S1,c1,x1,s1,k1,r1,q1⟩:=lay (P:=Tryz.prog) (w0:=⟨W,fun _=>false⟩) 7 24 fuel1 _ _ _ (by kernel_rfl) (fun _=>rfl) h1 _ _ hsim
 obtain⟨n1,a1,cap1,L1,rfl,hs1⟩:=rep_src (n:=0) q1
 refine(calls_of_cc follows (known_M hm) hf hb hnm s1 (args':= #[v1]) (VRs.cons (vr_agg r1) VRs.nil) (spec S1 n1 a1 cap1 L1 (k1.3 start_fresh) (start_gl.keep k1) hs1)).mono ?_
 rintro e w ⟨v,ρ',v',hv,hr,he,hk⟩
 subst hv
 cases hr
 exact⟨he,hk⟩
end Go.Proofs.YtmfphenhpkgidaaGreatDoor
namespace Go.Proofs.YtmfphenhpkgidaaGreatDoor
open Go.Cm Go
set_option maxRecDepth 100000
variable{S:St}
open Go.ChangeShapes Go.WideShapes Go.ChangeAt Go.RowKit
theorem own_none:ownKnob Tryz.prog.godebug=none:=by kernel_rfl
theorem _root_.Go.Cm.Kept.but{W w:World}(h:Kept W w)(may:MemPlace→Prop):W.keptBut w may:=by
 refine⟨h.os,h.out,fun i hi=>?_⟩
 rw[h.old i hi]
 cases W.heap[i]? with
 |none=>rfl
 |some o=>cases o<;>first|exact⟨rfl,rfl,rfl,fun _ _=>rfl⟩|exact .inr ⟨rfl,rfl⟩|rfl
theorem post_true{H:Type}{enc:TypeId×Value→H}{P:Program}{f:Func}{s:ChangeSpec}{apart fresh handsOn:Bool}{W W':World}{args:Array Value}{ds gs:List (DataW H)}{before pa pv:List MemPlace}{t:TypeId}
  (hr:f.resultTypes= #[t])(ht:P.underlying t=some .bool)(hs:(s.fn H (ds++gs)).results= [.lit (.bool true)])
  (hW:DataW.Whole enc P f.params.toList s.vars apart W args.toList ds gs before)(hk:Kept W W')
  (hargs:DataW.TrodAll enc P W' 0 (fun b=>decide (b<W.heap.size)) true f.params.toList args.toList (s.fn H (ds++gs)).args pa)
  (hvars:DataW.TrodVars enc P W' (fun b=>decide (b<W.heap.size)) s.vars (s.fn H (ds++gs)).vars pv):s.post enc P f apart fresh handsOn false W args (.bool true) W':=by
 refine⟨ds,gs,before,[],pa,pv,hW,?_,hargs,hvars,hk.but _,fun h=>by cases h⟩
 rw[hr,hs]
 exact trodAll_mk1 (shut_bool ht _)
def holds(l:List Value):Obj→Obj
 | .cells _ t frozen=> .cells l.toArray t frozen
 |o=>o
noncomputable def laidHeap(h:Array Obj):Array Obj:=(((h).modify 0 (holds of0)).modify 1 (holds of1)).modify 2 (holds of2)
noncomputable def laidWorld(os:Os):World :=
 {World.holding Tryz.prog os ⟨#[], #[],[]⟩with heap:=laidHeap (World.holding Tryz.prog os ⟨#[], #[],[]⟩).heap}
def zs:Value:= .agg #[.string ⟨#[]⟩,.slice none 0 0]
def zd{H:Type}:DataW H:= .agg [.lit (.string []),.nil]
theorem laid_met(os:Os):laidMet Tryz.prog Rows.sourcePartsRow.laid ((laidWorld os).forCall (fun _ _=>0) ⟨#[], #[zs],[]⟩).memory :=
 laidMet_of_run' 8 (by kernel_rfl) (by kernel_rfl)
theorem reads(os:Os){H:Type}(enc:TypeId×Value→H):∃places,DataW.whole enc Tryz.prog ((laidWorld os).forCall (fun _ _=>0) ⟨#[], #[zs],[]⟩).memory Tryz.f3.params.toList Rows.sourcePartsSpec.vars false #[zs].toList 8=some ([zd],[],places) :=
 ⟨[],by kernel_rfl⟩
theorem laids:Laids Rows.sourcePartsRow.laid:=by
 refine⟨?_,?_,?_⟩
 all_goals
  show _∈[_,_,_]
  simp only[List.mem_cons,true_or,or_true]
theorem paramsM:Tryz.f3.params= #[24]:=by kernel_rfl
theorem contract(H:Type)(enc:TypeId×Value→H)(W:World)(args:Array Value)(ds gs:List (DataW H))(before:List MemPlace)
  (hW:DataW.Whole enc Tryz.prog Tryz.f3.params.toList Rows.sourcePartsSpec.vars false W args.toList ds gs before)(hL:laidMetH Tryz.prog Rows.sourcePartsRow.laid W) :
  Calls Tryz.prog 3 args W fun e W'=>∃v,e= .returned v∧Rows.sourcePartsSpec.post enc Tryz.prog Tryz.f3 false true false false W args v W':=by
 have hW':=hW
 obtain⟨p,q,hA0,hV,rfl,hfz,hnd⟩:=hW
 have hA:DataW.TrodAll enc Tryz.prog W 0 (fun _=>true) true Tryz.f3.params.toList args.toList ds p:=hA0
 rw[paramsM]at hA
 obtain⟨v1,d1,rfl,rfl,h1⟩:=trodAll_one hA
 obtain⟨rfl,rfl⟩:=trodVars_none hV
 clear hA0
 refine(join1 (listed_met laids hL) h1 Tryz.func3 (c:=cd3) (by kernel_rfl) (by kernel_rfl) (fun S n1 a1 cap1 L1 hF hG hv1=>cc_mono (spec3 n1 a1 cap1 L1 hF hG hv1) fun v S' h=>h.2)).mono fun e W' ⟨he,hk⟩=>?_
 subst he
 refine⟨_,rfl,post_true (pa:=p) (pv:=[]) (t:=4) (by kernel_rfl) (by kernel_rfl) rfl hW' hk ?_ ?_⟩
 ·rw[paramsM]
  exact retrodAll hk 7 _ _ _ _ (by kernel_rfl) hA
 exact rfl
theorem lifted(os:Os)(started:os.Started)(H:Type)(enc:TypeId×Value→H)(F:Stop.Interp) :
  ReturnsInHanded {} Tryz.checked os 3 .any ((OpenSpec.ofChange Rows.sourcePartsSpec).preRow enc Tryz.prog Tryz.f3 Rows.sourcePartsRow.domain false Rows.sourcePartsRow.laid) (((OpenSpec.ofChange Rows.sourcePartsSpec).at F).post enc Tryz.prog Tryz.f3 false true false false):=by
 obtain⟨places,hx⟩:=reads os enc
 refine returnsInHanded_of_row (C:=Tryz.checked) (s:=OpenSpec.ofChange Rows.sourcePartsSpec) own_none started (by kernel_rfl) Tryz.func3
  (witness_row_at (enc:=enc) (C:=Tryz.checked) false (laidWorld os) #[zs] rfl (by kernel_rfl) (by kernel_rfl) (by kernel_rfl)
   (OpenSpec.preRow_of_cond 8 hx (by kernel_rfl) (fun k hk=>by cases hk) (by kernel_rfl) (laid_met os))) ?_
 intro W base args ds gs before hval hW _ _ _ hL _ _
 exact contract H enc W args ds gs before hW hL
theorem said:Rows.SourcePartsSaid :=
 OpenClaim.holds_of_cond 3 Tryz.f3 rfl rfl rfl rfl rfl rfl rfl ⟨rfl,rfl,rfl,rfl,rfl⟩ rfl rfl rfl rfl rfl (by kernel_rfl) Tryz.func3 joined'
  (of_decide_eq_true (by kernel_rfl)) (by unfold Func.isWrapper;first|(rw[if_pos (by decide+kernel)];kernel_rfl)|(rw[if_neg (by decide+kernel)];exact⟨rfl,rfl⟩))
  (fun os started H enc _ F=>by rw[OpenClaim.pre_eq_preRow];exact lifted os started H enc F)
theorem plain(f:FuncId)(fn:Func)(hf:Tryz.pinned.checked.prog.funcNamed "tactus/tactuslaw36.SourceParts" =some f)(hfn:Tryz.pinned.checked.prog.funcs[f]?=some fn) :
  true=Tryz.pinned.checked.prog.looks []∧∀(j:Nat) t,fn.params[j]?=some t→Tryz.pinned.checked.prog.wantsStandIn t=false:=by
 obtain rfl:f=3:=Option.some.inj ((show Tryz.prog.funcNamed "tactus/tactuslaw36.SourceParts" =some 3 by kernel_rfl).symm.trans hf) |>.symm
 obtain rfl:fn=Tryz.f3:=(Option.some.inj (Tryz.func3.symm.trans hfn)).symm
 refine⟨by kernel_rfl,fun j t ht=>?_⟩
 rw[paramsM]at ht
 obtain rfl:t=24:=by simpa using Array.mem_of_getElem? ht
 exact(show Tryz.prog.wantsStandIn 24=false by kernel_rfl)
theorem card:Rows.SourcePartsCardSaid :=
 Claim7.holds_tied_plain_at .later [] _ _ _ _ said (fun _ h=>by cases h) (by kernel_rfl) (fun _ h=>by cases h) sourceParts_row_tie rfl ⟨rfl,rfl⟩ (by kernel_rfl) rfl plain (by kernel_rfl)
end Go.Proofs.YtmfphenhpkgidaaGreatDoor

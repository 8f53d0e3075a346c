/-
  The reference: a choice behind.
-/
import Derived.Test.YtmfphenhpkgidaaGreatDoorSmD
namespace Go.Proofs.YtmfphenhpkgidaaGreatDoor
open Go.Cm Go
set_option maxRecDepth 100000
variable{S:St}
noncomputable def cd281:Code:=Tryz.f281.body.getD .skip
set_option maxHeartbeats 4000000 in
theorem spec281(B:Nat)(x:Sta)(hm:x.M.length<x.G.length)(hF:Fresh S)(hd:At S B x.blk)(hx:x.Fit)(hk:x.Ok S):CC Tryz.prog KK 281 [ptrTo B 0,.int .i64 (x.M.length:Int)] S (fun v S'=>Keep S S'∧(∃B:Bool,v= .bool B∧(B=true→∀s,nth x.G x.M.length=some s→0≤s.l))):=by
 refine cc_enter (c:=cd281) (n:=93) Tryz.func281 rfl rfl rfl (by kernel_rfl) rfl rfl ?_
 have hl:=Hold.start S
 obtain⟨s,hs⟩:=nth_some hm
 have hso:=hx.s s (nth_mem hs)
 have hll:=hx.l
 have hgl:=hx.g
 obtain⟨b1,o1,cs1,ha,_,hrow,htk⟩:=hk.g.elem hs
 refine zg ?_;refine re_allocL hl rfl rfl rfl rfl rfl (z:=[.int .i64 0,.int .i64 0,.int .i64 0,.int .i64 0,.bool false,.int .i64 0,.int .i64 0]) (by kernel_rfl) ?_
 intro B5 S5 hl
 refine re_storeL hl 0 rfl rfl rfl rfl rfl rfl rfl (by kernel_rfl) (c':=s.cells) rfl ?_
 intro S1 hl
 clear ha hrow htk
 refine zA ?_;refine xp_seq rfl ?_;refine xp_seq rfl (xe_toI 24 (fun v S'=>∃B:Bool,v= .bool B∧(B=false→0≤s.l)∧HoldG S [S] S' [(B5,.cells s.cells 328 false true [])] []) ?_ ?_)
 ·
  refine zg ?_;refine re_bool (d:=18) rfl (fun h18=>?_) (fun h18=>?_)
  ·
   refine zg ?_
   exact⟨rfl,_,bl rfl,sB,true,rfl,nofun,hl⟩
  have h0:0≤s.l:=by have:=of_decide_eq_false h18;omega
  refine zg ?_
  refine zc hl rfl (spec317 B x s.l ⟨h0,hso.l.2⟩ (hl.keep.3 hF) ⟨fun g=>hd.at_ (hl.keep.trans g)⟩ hx (hk.move (hl.since 0 rfl))) ?_;rintro v S1 hk1 ⟨C,rfl⟩ hl
  refine rr rfl (rd_un rfl rfl rfl) ?_;refine zg ?_
  exact⟨rfl,_,bl rfl,sB,_,rfl,fun _=>h0,hl⟩
 rintro v S1 ⟨C,rfl,hB,hl⟩
 refine zg ?_
 constructor<;>intro h24
 ·
  refine zg ?_
  exact(z1 rfl ⟨hl.keep,false,rfl,nofun⟩)
 have h0:=hB h24
 obtain⟨j,hj,hjL⟩:=int_n h0 hso.l.2
 have hj3:s.l.toNat=j:=by omega
 obtain⟨y,hy⟩:=nth_some hjL
 obtain⟨b2,o2,cs2,ha,_,hrow,htk⟩:=hk.l.elem hy
 rw[←hj3]at htk
 refine xp_skip rfl ?_;refine xp_seq rfl ?_;refine xp_seq rfl (xe_toW hl 64 Value.bool ?_ rfl ?_)
 ·
  refine xp_draw (idx:=[0,1,2,3,4,5,6,7,8,9,10,11,12,13,14,15,16,17,18,19,20,21,22,23,24,25,26,27,28,29,30,31,32,33,34,35,36,37,38,39]) rfl (by kernel_rfl) (by kernel_rfl) ?_;refine zg ?_;refine rp_bool (d:=27) rfl (fun h27=>?_) (fun h27=>?_)
  ·
   obtain⟨i,hi⟩:∃i,x.M.length=i+1:=⟨x.M.length-1,by have:=of_decide_eq_true h27;omega⟩
   have hi2:i<x.M.length:=by omega
   obtain⟨z,hz⟩:=nth_some hi2
   have ei:((x.M.length:Int)-1).toNat=i:=by omega
   obtain⟨b3,o3,cs3,ha3,_,hrow3,htk3⟩:=hk.m.elem hz
   rw[←ei]at htk3
   refine zg ?_;refine rp_bool (d:=37) rfl (fun h37=>?_) (fun h37=>?_)
   ·
    refine zg ?_
    exact⟨rfl,⟨_,bl rfl⟩,sB,hl⟩
   refine zg ?_;refine rp_bool (d:=49) rfl (fun h49=>?_) (fun h49=>?_)
   ·
    refine zg ?_
    exact⟨rfl,⟨_,bl rfl⟩,sB,hl⟩
   refine zg ?_
   exact⟨rfl,⟨_,bl rfl⟩,sB,hl⟩
  refine zg ?_
  exact⟨rfl,⟨_,bl rfl⟩,sB,hl⟩
 intro q64 S1 hl
 refine zg ?_
 constructor<;>intro h64
 ·
  refine zg ?_
  exact(z1 rfl ⟨hl.keep,false,rfl,nofun⟩)
 have hl:=hl.mark
 refine zg ?_;refine xp_draw (idx:=[0,1,2,3,4,5,6,7,8,9,10,11,12,17,13,14,15,16,18,19]) rfl (by kernel_rfl) (by kernel_rfl) ?_;refine zg ?_;refine rp_allocL hF hl rfl rfl rfl rfl rfl (z:=[.int .i64 0,.int .i64 0]) (by kernel_rfl) ?_;intro B6 S6 hl
 refine zp hl rfl (spec277 y.af x.u) ?_;rintro v S1 hk1 ⟨t2,e,rfl,he⟩ hl;refine⟨zt,?_⟩
 refine zg ?_
 refine rp_storeL hl 0 rfl rfl rfl rfl rfl rfl rfl (by kernel_rfl) (c':=t2.cells) rfl ?_;intro S1 hl;refine⟨zt,?_⟩
 refine zA ?_;refine xp_seq rfl (xe_cut (fun Le S'=>∃b:Bool,SubE [(4,.bool b)] Le∧Keep S S') ?_ ?_)
 ·
  refine xp_draw (idx:=[0,1,2,3,4,5,6,7,8,9,10,11]) rfl (by kernel_rfl) (by kernel_rfl) ?_;refine zg ?_;refine rp_bool (d:=84) rfl (fun h84=>?_) (fun h84=>?_)
  ·
   refine zg ?_
   refine zp hl rfl (spec318 x.al x.cl x.L s t2 hx.l (hl.keep.3 hF) hso (hk.l.move (hl.since 1 rfl))) ?_;rintro v S1 hk1 ⟨D,rfl⟩ hl;refine⟨zt,?_⟩
   refine zg ?_
   exact⟨rfl,_,⟨bl rfl,trivial⟩,hl.keep⟩
  refine zg ?_
  exact⟨rfl,_,⟨bl rfl,trivial⟩,hl.keep⟩
 rintro Le S1 ⟨b,hsub,hkp⟩;refine xe_sub hsub ?_
 refine zg ?_
 exact y1 rfl ⟨hkp,_,rfl,fun _ u hu=>by rw[hs]at hu;cases hu;exact h0⟩
noncomputable def cd282:Code:=Tryz.f282.body.getD .skip
set_option maxHeartbeats 4000000 in
theorem spec282(B:Nat)(x:Sta)(hm:x.M.length<x.G.length)(hF:Fresh S)(hd:At S B x.blk)(hx:x.Fit)(hk:x.Ok S):CC Tryz.prog KK 282 [ptrTo B 0,.int .i64 (x.M.length:Int)] S (fun v S'=>Keep S S'∧(∃B:Bool,v= .bool B∧(B=true→∀s,nth x.G x.M.length=some s→0≤s.r))):=by
 refine cc_enter (c:=cd282) (n:=108) Tryz.func282 rfl rfl rfl (by kernel_rfl) rfl rfl ?_
 have hl:=Hold.start S
 obtain⟨s,hs⟩:=nth_some hm
 have hso:=hx.s s (nth_mem hs)
 have hll:=hx.l
 have hgl:=hx.g
 have hxk:=hx.k
 obtain⟨b1,o1,cs1,ha,_,hrow,htk⟩:=hk.g.elem hs
 refine zg ?_;refine re_allocL hl rfl rfl rfl rfl rfl (z:=[.int .i64 0,.int .i64 0,.int .i64 0,.int .i64 0,.bool false,.int .i64 0,.int .i64 0]) (by kernel_rfl) ?_
 intro B5 S5 hl
 refine re_storeL hl 0 rfl rfl rfl rfl rfl rfl rfl (by kernel_rfl) (c':=s.cells) rfl ?_
 intro S1 hl
 clear ha hrow htk
 refine zA ?_;refine xp_seq rfl ?_;refine xp_seq rfl (xe_toI 25 (fun v S'=>∃B:Bool,v= .bool B∧(B=false→0≤s.r)∧HoldG S [S] S' [(B5,.cells s.cells 328 false true [])] []) ?_ ?_)
 ·
  refine zg ?_;refine re_bool (d:=19) rfl (fun h18=>?_) (fun h18=>?_)
  ·
   refine zg ?_
   exact⟨rfl,_,bl rfl,sB,true,rfl,nofun,hl⟩
  have h0:0≤s.r:=by have:=of_decide_eq_false h18;omega
  refine zg ?_
  refine zc hl rfl (spec317 B x s.r ⟨h0,hso.r.2⟩ (hl.keep.3 hF) ⟨fun g=>hd.at_ (hl.keep.trans g)⟩ hx (hk.move (hl.since 0 rfl))) ?_;rintro v S1 hk1 ⟨C,rfl⟩ hl
  refine rr rfl (rd_un rfl rfl rfl) ?_;refine zg ?_
  exact⟨rfl,_,bl rfl,sB,_,rfl,fun _=>h0,hl⟩
 rintro v S1 ⟨C,rfl,hB,hl⟩
 refine zg ?_
 constructor<;>intro h24
 ·
  refine zg ?_
  exact(z1 rfl ⟨hl.keep,false,rfl,nofun⟩)
 have h0:=hB h24
 obtain⟨j,hj,hjL⟩:=int_n h0 hso.r.2
 have hj3:s.r.toNat=j:=by omega
 obtain⟨y,hy⟩:=nth_some hjL
 obtain⟨b2,o2,cs2,ha,_,hrow,htk⟩:=hk.l.elem hy
 rw[←hj3]at htk
 refine zg ?_;refine xp_draw (idx:=[0,1,2,3,4,5,6,7,8,9]) rfl (by kernel_rfl) (by kernel_rfl) ?_;refine zg ?_;refine rp_allocL hF hl rfl rfl rfl rfl rfl (z:=[.int .i64 0,.int .i64 0,.bool false,.bool false,.bool false,.int .i64 0,.int .i64 0,.int .i64 0,.int .i64 0,.int .i64 0,.int .i64 0,.int .i64 0]) (by kernel_rfl) ?_;intro B6 S6 hl
 refine rp_storeL hl 0 rfl rfl rfl rfl rfl rfl rfl (by kernel_rfl) (c':=y.cells) rfl ?_;intro S1 hl;refine⟨zt,?_⟩
 refine zA ?_;refine xp_seq rfl ?_;refine xp_seq rfl (xe_toW hl 86 Value.bool ?_ rfl ?_)
 ·
  refine xp_draw (idx:=[0,1,2,3,4,5,6,7,8,9,10,11,12,13,14,15,16,17,18,19,20,21,22,23,24,25,26,27,28,29,30,31,32,33,34,35,36,37,38,39,40,41,42,43,44,45,46,47,48,49,50,51,52]) rfl (by kernel_rfl) (by kernel_rfl) ?_;refine zg ?_;refine rp_bool (d:=41) rfl (fun h41=>?_) (fun h41=>?_)
  ·
   refine zg ?_;refine rp_bool (d:=46) rfl (fun h46=>?_) (fun h46=>?_)
   ·
    refine zg ?_;refine rp_bool (d:=57) rfl (fun h57=>?_) (fun h57=>?_)
    ·
     have h57:s.r+1<x.L.length:=by have:=of_decide_eq_true h57;omega
     obtain⟨y2,hy2⟩:=nth_some (l:=x.L) (i:=j+1) (by omega)
     have ej:(s.r+1).toNat=j+1:=by omega
     clear ha hrow htk
     obtain⟨b4,o4,cs4,ha,_,hrow,htk⟩:=hk.l.elem hy2
     rw[←ej]at htk
     refine zg ?_;refine pr rfl (rd_un rfl rfl rfl) ?_;refine zg ?_;refine rp_bool (d:=70) rfl (fun h70=>?_) (fun h70=>?_)
     ·
      refine zg ?_
      exact⟨rfl,⟨_,bl rfl⟩,sB,hl⟩
     refine zg ?_
     exact⟨rfl,⟨_,bl rfl⟩,sB,hl⟩
    refine zg ?_
    exact⟨rfl,⟨_,bl rfl⟩,sB,hl⟩
   refine zg ?_
   exact⟨rfl,⟨_,bl rfl⟩,sB,hl⟩
  refine zg ?_
  exact⟨rfl,⟨_,bl rfl⟩,sB,hl⟩
 intro q86 S1 hl
 refine zg ?_
 constructor<;>intro h64
 ·
  refine zg ?_
  exact(z1 rfl ⟨hl.keep,false,rfl,nofun⟩)
 have hl:=hl.mark
 refine zg ?_;refine xp_draw (idx:=[0,1,2,3,4,5,10,6,7,8,9,11,12]) rfl (by kernel_rfl) (by kernel_rfl) ?_;refine zg ?_;refine rp_allocL hF hl rfl rfl rfl rfl rfl (z:=[.int .i64 0,.int .i64 0]) (by kernel_rfl) ?_;intro B7 S7 hl
 refine zp hl rfl (spec277 y.be x.u) ?_;rintro v S1 hk1 ⟨t2,e,rfl,he⟩ hl;refine⟨zt,?_⟩
 refine zg ?_
 refine rp_storeL hl 0 rfl rfl rfl rfl rfl rfl rfl (by kernel_rfl) (c':=t2.cells) rfl ?_;intro S1 hl;refine⟨zt,?_⟩
 refine zA ?_;refine xp_seq rfl (xe_cut (fun Le S'=>∃b:Bool,SubE [(4,.bool b)] Le∧Keep S S') ?_ ?_)
 ·
  refine xp_draw (idx:=[0,1,2,3,4,5,6,7,8,9,10,11]) rfl (by kernel_rfl) (by kernel_rfl) ?_;refine zg ?_;refine rp_bool (d:=99) rfl (fun h84=>?_) (fun h84=>?_)
  ·
   refine zg ?_
   refine zp hl rfl (spec319 x.al x.cl x.L s t2 hx.l (hl.keep.3 hF) hso (hk.l.move (hl.since 1 rfl))) ?_;rintro v S1 hk1 ⟨D,rfl⟩ hl;refine⟨zt,?_⟩
   refine zg ?_
   exact⟨rfl,_,⟨bl rfl,trivial⟩,hl.keep⟩
  refine zg ?_
  exact⟨rfl,_,⟨bl rfl,trivial⟩,hl.keep⟩
 rintro Le S1 ⟨b,hsub,hkp⟩;refine xe_sub hsub ?_
 refine zg ?_
 exact y1 rfl ⟨hkp,_,rfl,fun _ u hu=>by rw[hs]at hu;cases hu;exact h0⟩
end Go.Proofs.YtmfphenhpkgidaaGreatDoor
namespace Go.Proofs.YtmfphenhpkgidaaGreatDoor
open Go.Cm Go
set_option maxRecDepth 100000
variable{S:St}
noncomputable def cd283:Code:=Tryz.f283.body.getD .skip
set_option maxHeartbeats 4000000 in
theorem spec283(B:Nat)(x:Sta)(hm:x.M.length<x.G.length)(hF:Fresh S)(hd:At S B x.blk)(hx:x.Fit)(hk:x.Ok S):CC Tryz.prog KK 283 [ptrTo B 0,.int .i64 (x.M.length:Int)] S (fun v S'=>Keep S S'∧(∃B:Bool,v= .bool B∧(B=true→∀s,nth x.G x.M.length=some s→s.f≠s.t))):=by
 refine cc_enter (c:=cd283) (n:=82) Tryz.func283 rfl rfl rfl (by kernel_rfl) rfl rfl ?_
 have hl:=Hold.start S
 obtain⟨s,hs⟩:=nth_some hm
 have hso:=hx.s s (nth_mem hs)
 have hll:=hx.l
 have hgl:=hx.g
 have hxk:=hx.k
 obtain⟨hsf,⟨hst,hst2⟩,_,hsr,hsr2⟩:=hso
 obtain⟨b1,o1,cs1,ha,_,hrow,htk⟩:=hk.g.elem hs
 refine zg ?_;refine re_allocL hl rfl rfl rfl rfl rfl (z:=[.int .i64 0,.int .i64 0,.int .i64 0,.int .i64 0,.bool false,.int .i64 0,.int .i64 0]) (by kernel_rfl) ?_
 intro B5 S5 hl
 refine re_storeL hl 0 rfl rfl rfl rfl rfl rfl rfl (by kernel_rfl) (c':=s.cells) rfl ?_
 intro S1 hl
 clear ha hrow htk
 refine zA ?_;refine xp_seq rfl ?_;refine xp_seq rfl (xe_toI 40 (fun v S'=>∃B:Bool,v= .bool B∧(B=false→s.f≠s.t)∧HoldG S [S] S' [(B5,.cells s.cells 328 false true [])] []) ?_ ?_)
 ·
  refine xp_draw (idx:=[0,1,2,3,4,5,6,7,8,9,10,11,12,13,14,15,16,17,18,19,20,21,22,23,24,25,26]) rfl (by kernel_rfl) (by kernel_rfl) ?_;refine zg ?_;refine rp_bool (d:=19) rfl (fun h19=>?_) (fun h19=>?_)
  ·
   refine zg ?_
   exact⟨rfl,_,bl rfl,sB,true,rfl,nofun,hl⟩
  have hne:s.f≠s.t:=by simpa using h19
  refine zg ?_;refine rp_bool (d:=23) rfl (fun h23=>?_) (fun h23=>?_)
  ·
   refine zg ?_
   exact⟨rfl,_,bl rfl,sB,true,rfl,nofun,hl⟩
  refine zg ?_;refine rp_bool (d:=27) rfl (fun h27=>?_) (fun h27=>?_)
  ·
   have h0:0≤s.r:=by have:=of_decide_eq_true h27;omega
   obtain⟨j,hj,hjL⟩:=int_n h0 hsr2
   have hj3:s.r.toNat=j:=by omega
   obtain⟨y,hy⟩:=nth_some hjL
   obtain⟨b2,o2,cs2,ha,_,hrow,htk⟩:=hk.l.elem hy
   rw[←hj3]at htk
   refine zg ?_
   exact⟨rfl,_,bl rfl,sB,_,rfl,fun _=>hne,hl⟩
  refine zg ?_
  exact⟨rfl,_,bl rfl,sB,_,rfl,fun _=>hne,hl⟩
 rintro v S1 ⟨C,rfl,hB,hl⟩
 refine zg ?_
 constructor<;>intro h40
 ·
  refine zg ?_
  exact(z1 rfl ⟨hl.keep,false,rfl,nofun⟩)
 have hne:=hB h40
 obtain⟨j,hj,hjL⟩:=int_n (i:=s.t-1) (C:=x.L.length) (by omega) (by omega)
 have hj3:(s.t-1).toNat=j:=by omega
 obtain⟨y,hy⟩:=nth_some hjL
 obtain⟨b2,o2,cs2,ha,_,hrow,htk⟩:=hk.l.elem hy
 rw[←hj3]at htk
 refine zg ?_;refine xp_draw (idx:=[0,1,2,3,4,5,6,7,8,9,10]) rfl (by kernel_rfl) (by kernel_rfl) ?_;refine zg ?_;refine rp_allocL hF hl rfl rfl rfl rfl rfl (z:=[.int .i64 0,.int .i64 0,.bool false,.bool false,.bool false,.int .i64 0,.int .i64 0,.int .i64 0,.int .i64 0,.int .i64 0,.int .i64 0,.int .i64 0]) (by kernel_rfl) ?_;intro B6 S6 hl
 refine rp_storeL hl 0 rfl rfl rfl rfl rfl rfl rfl (by kernel_rfl) (c':=y.cells) rfl ?_;intro S1 hl;refine⟨zt,?_⟩
 clear ha hrow htk
 refine zA ?_;refine xp_seq rfl (xe_cut (fun Le S'=>∃b:Bool,SubE [(4,.bool b)] Le∧Keep S S') ?_ ?_)
 ·
  refine xp_draw (idx:=[0,1,2,3,4,5,6,7,8,9,10,11,12,13,14,15,16,17,18,19,20,21,22,23,24,25,26,27,28,29,30,31,32]) rfl (by kernel_rfl) (by kernel_rfl) ?_;refine zg ?_;refine pr rfl (rd_un rfl rfl rfl) ?_;refine zg ?_;refine rp_bool (d:=53) rfl (fun h53=>?_) (fun h53=>?_)
  ·
   refine zg ?_;refine pr rfl (rd_un rfl rfl rfl) ?_;refine zg ?_;refine rp_bool (d:=58) rfl (fun h58=>?_) (fun h58=>?_)
   ·
    refine zg ?_;refine pr rfl (rd_un rfl rfl rfl) ?_;refine zg ?_;refine rp_bool (d:=63) rfl (fun h63=>?_) (fun h63=>?_)
    ·
     refine zg ?_;refine rp_bool (d:=73) rfl (fun h73=>?_) (fun h73=>?_)
     ·
      refine zg ?_
      exact⟨rfl,_,⟨bl rfl,trivial⟩,hl.keep⟩
     refine zg ?_
     exact⟨rfl,_,⟨bl rfl,trivial⟩,hl.keep⟩
    refine zg ?_
    exact⟨rfl,_,⟨bl rfl,trivial⟩,hl.keep⟩
   refine zg ?_
   exact⟨rfl,_,⟨bl rfl,trivial⟩,hl.keep⟩
  refine zg ?_
  exact⟨rfl,_,⟨bl rfl,trivial⟩,hl.keep⟩
 rintro Le S1 ⟨b,hsub,hkp⟩;refine xe_sub hsub ?_
 refine zg ?_
 exact y1 rfl ⟨hkp,_,rfl,fun _ u hu=>by rw[hs]at hu;cases hu;exact hne⟩
end Go.Proofs.YtmfphenhpkgidaaGreatDoor
namespace Go.Proofs.YtmfphenhpkgidaaGreatDoor
open Go.Cm Go
set_option maxRecDepth 100000
variable{S:St}
def AlwOk(s:Se)(D:List Int):Prop:= ∀c,c∈D→((c=1∨c=3)→0≤s.l)∧((c=2∨c=3)→0≤s.r)∧(c=4→s.f≠s.t)
theorem AlwOk.push{s:Se}{D:List Int}(h:AlwOk s D){c:Int}(hc:((c=1∨c=3)→0≤s.l)∧((c=2∨c=3)→0≤s.r)∧(c=4→s.f≠s.t)):AlwOk s (D++[c]):=fun d hd=>by
 rcases List.mem_append.1 hd with h1|h1
 ·exact h d h1
 rw[List.mem_singleton.1 h1]
 exact hc
noncomputable def cd234:Code:=Tryz.f234.body.getD .skip
set_option maxHeartbeats 4000000 in
theorem spec234(B:Nat)(x:Sta)(hm:x.M.length<x.G.length)(hF:Fresh S)(hd:At S B x.blk)(hx:x.Fit)(hk:x.Ok S):CC Tryz.prog KK 234 [ptrTo B 0] S (fun v S'=>Keep S S'∧(∃av D,v= .slice av D.length D.length∧Nums S' (.slice av D.length D.length) D∧D.length≤2∧∀s,nth x.G x.M.length=some s→AlwOk s D)):=by
 refine cc_enter (c:=cd234) (n:=84) Tryz.func234 rfl rfl rfl (by kernel_rfl) rfl rfl ?_
 have hl:=Hold.start S
 obtain⟨s,hs⟩:=nth_some hm
 have hso:=hx.s s (nth_mem hs)
 have hll:=hx.l
 have hgl:=hx.g
 obtain⟨b1,o1,cs1,ha,_,hrow,htk⟩:=hk.g.elem hs
 refine zg ?_;refine re_allocL hl rfl rfl rfl rfl rfl (z:=[.int .i64 0,.int .i64 0,.int .i64 0,.int .i64 0,.bool false,.int .i64 0,.int .i64 0]) (by kernel_rfl) ?_
 intro B4 S4 hl
 refine re_storeL hl 0 rfl rfl rfl rfl rfl rfl rfl (by kernel_rfl) (c':=s.cells) rfl ?_
 intro S1 hl
 clear ha hrow htk
 refine zg ?_
 constructor<;>intro h19
 ·
  have hl:=hl.addG (g:=gI' none []) (.inl ⟨rfl,rfl,rfl⟩)
  obtain⟨av,D,⟨hav,hA⟩,hD⟩:∃(av:Option Addr) (D:List Int),((av=none∧D= [])∧AlwOk s D)∧D.length≤0:=⟨none,[],⟨⟨rfl,rfl⟩,fun c hc=>(List.not_mem_nil hc).elim⟩,by decide⟩
  refine xe_sub (L':=[(5,.slice av D.length D.length),(3,.int .i64 (x.M.length:Int)),(2,.slice none 0 0),(0,ptrTo B 0),(4,ptrTo B4 0)]) (by obtain⟨rfl,rfl⟩:=hav;exact⟨rfl,rfl,rfl,rfl,rfl,trivial⟩) ?_
  have hl:HoldG S [S] S1 [(B4,.cells s.cells 328 false true [])] [gI' av D]:=by obtain⟨rfl,rfl⟩:=hav;exact hl
  clear hav
  refine zg ?_;refine re_buildSliceR hl rfl rfl rfl rfl rfl Tryz.underlying38 rfl (c:=ic 0) (by kernel_rfl) ?_;intro Br S1 hr hl;refine re_appendG hl 0 rfl rfl (by simp) rfl rfl rfl rfl rfl rfl rfl Tryz.underlying38 Tryz.underlying38 rfl rfl (by kernel_rfl) (src_row_ (n:=1) (cap:=1) hr rfl) rfl rfl (by kernel_rfl) (by show D.length+1≤maxNeed;unfold maxNeed;omega) ?_;intro vn S1 hl
  obtain⟨av2,rfl⟩:∃x,vn= .slice x (D.length+1) (D.length+1):=Grow.is_ (hl.gr _ (List.mem_cons_self ..))
  have hl:HoldG S [S] S1 _ [gI' av2 (D++[0])]:=gI_ok hl
  have hD1:(D++[0]).length≤1:=by rw[len_push];omega
  have hA:=hA.push (c:=0) ⟨fun h=>by omega,fun h=>by omega,fun h=>by omega⟩
  have e1:D.length+1=(D++[(0:Int)]).length:=(len_push ..).symm
  rw[e1]
  clear hD e1
  generalize D++[(0:Int)]=D at *
  refine zA ?_;refine xp_seq rfl (xe_cut (fun Le S'=>∃(av:Option Addr) (D:List Int),D.length≤2∧AlwOk s D∧SubE [(5,.slice av D.length D.length),(3,.int .i64 (x.M.length:Int)),(2,.slice none 0 0),(0,ptrTo B 0)] Le∧HoldG S [S] S' [(B4,.cells s.cells 328 false true [])] [gI' av D]) ?_ ?_)
  ·
   refine xp_seq rfl (xe_toI 38 (fun v S'=>∃B:Bool,v= .bool B∧(B=true→0≤s.l)∧HoldG S [S] S' [(B4,.cells s.cells 328 false true [])] [gI' av2 D]) ?_ ?_)
   ·
    refine zg ?_;refine re_bool (d:=27) rfl (fun h27=>?_) (fun h27=>?_)
    ·
     refine zg ?_;refine re_bool (d:=34) rfl (fun h34=>?_) (fun h34=>?_)
     ·
      refine zg ?_
      refine zc hl rfl (spec281 B x hm (hl.keep.3 hF) ⟨fun g=>hd.at_ (hl.keep.trans g)⟩ hx (hk.move (hl.since 0 rfl))) ?_;rintro v S1 hk1 ⟨Qpost,rfl,hpost⟩ hl
      refine zg ?_
      exact⟨rfl,_,bl rfl,sB,_,rfl,fun h=>hpost h s hs,hl⟩
     refine zg ?_
     exact⟨rfl,_,bl rfl,sB,false,rfl,nofun,hl⟩
    refine zg ?_
    exact⟨rfl,_,bl rfl,sB,false,rfl,nofun,hl⟩
   rintro v S1 ⟨Q38,rfl,hB38,hl⟩
   refine zg ?_
   constructor<;>intro h38
   ·
    refine zg ?_;refine re_buildSliceR hl rfl rfl rfl rfl rfl Tryz.underlying38 rfl (c:=ic 1) (by kernel_rfl) ?_;intro Br S1 hr hl;refine re_appendG hl 0 rfl rfl (by simp) rfl rfl rfl rfl rfl rfl rfl Tryz.underlying38 Tryz.underlying38 rfl rfl (by kernel_rfl) (src_row_ (n:=1) (cap:=1) hr rfl) rfl rfl (by kernel_rfl) (by show D.length+1≤maxNeed;unfold maxNeed;omega) ?_;intro vn S1 hl
    obtain⟨av2,rfl⟩:∃x,vn= .slice x (D.length+1) (D.length+1):=Grow.is_ (hl.gr _ (List.mem_cons_self ..))
    have hl:HoldG S [S] S1 _ [gI' av2 (D++[1])]:=gI_ok hl
    refine zg ?_
    exact⟨rfl,av2,_,by rw[len_push];omega,hA.push ⟨fun _=>hB38 h38,fun h=>by omega,fun h=>by omega⟩,⟨by rw[len_push];rfl,rfl,rfl,rfl,trivial⟩,hl⟩
   refine zg ?_
   exact⟨rfl,av2,D,by omega,hA,⟨rfl,rfl,rfl,rfl,trivial⟩,hl⟩
  clear hl;rintro Le S1 ⟨av,D,hD,hA,hsub,hl⟩;refine xe_sub hsub ?_
  refine zg ?_
  exact(z1 rfl ⟨hl.keep,av,D,rfl,Grow.ls (f:=ic) (fun _=>rfl) (hl.gr _ (List.mem_cons_self ..)),hD,fun u hu=>by rw[hs]at hu;cases hu;exact hA⟩)
 have hl:=hl.addG (g:=gI' none []) (.inl ⟨rfl,rfl,rfl⟩)
 obtain⟨av,D,⟨hav,hA⟩,hD⟩:∃(av:Option Addr) (D:List Int),((av=none∧D= [])∧AlwOk s D)∧D.length≤0:=⟨none,[],⟨⟨rfl,rfl⟩,fun c hc=>(List.not_mem_nil hc).elim⟩,by decide⟩
 refine xe_sub (L':=[(5,.slice av D.length D.length),(3,.int .i64 (x.M.length:Int)),(2,.slice none 0 0),(0,ptrTo B 0),(4,ptrTo B4 0)]) (by obtain⟨rfl,rfl⟩:=hav;exact⟨rfl,rfl,rfl,rfl,rfl,trivial⟩) ?_
 have hl:HoldG S [S] S1 [(B4,.cells s.cells 328 false true [])] [gI' av D]:=by obtain⟨rfl,rfl⟩:=hav;exact hl
 clear hav
 refine zg ?_
 constructor<;>intro h64
 ·
  refine zg ?_;refine re_buildSliceR hl rfl rfl rfl rfl rfl Tryz.underlying38 rfl (c:=ic 0) (by kernel_rfl) ?_;intro Br S1 hr hl;refine re_appendG hl 0 rfl rfl (by simp) rfl rfl rfl rfl rfl rfl rfl Tryz.underlying38 Tryz.underlying38 rfl rfl (by kernel_rfl) (src_row_ (n:=1) (cap:=1) hr rfl) rfl rfl (by kernel_rfl) (by show D.length+1≤maxNeed;unfold maxNeed;omega) ?_;intro vn S1 hl
  obtain⟨av2,rfl⟩:∃x,vn= .slice x (D.length+1) (D.length+1):=Grow.is_ (hl.gr _ (List.mem_cons_self ..))
  have hl:HoldG S [S] S1 _ [gI' av2 (D++[0])]:=gI_ok hl
  refine zg ?_
  exact y1 rfl ⟨hl.keep,av2,_,by rw[len_push],Grow.ls (f:=ic) (fun _=>rfl) (hl.gr _ (List.mem_cons_self ..)),by rw[len_push];omega,fun u hu=>by rw[hs]at hu;cases hu;exact hA.push ⟨fun h=>by omega,fun h=>by omega,fun h=>by omega⟩⟩
 refine zS ?_;refine zi tt rfl ?_
 constructor<;>intro h69
 ·
  refine xp_seq rfl (xe_cut (fun Le S'=>∃(av:Option Addr) (D:List Int),D.length≤1∧AlwOk s D∧SubE [(5,.slice av D.length D.length),(3,.int .i64 (x.M.length:Int)),(2,.slice none 0 0),(0,ptrTo B 0)] Le∧HoldG S [S] S' [(B4,.cells s.cells 328 false true [])] [gI' av D]) ?_ ?_)
  ·
   refine zg ?_
   refine zc hl rfl (spec281 B x hm (hl.keep.3 hF) ⟨fun g=>hd.at_ (hl.keep.trans g)⟩ hx (hk.move (hl.since 0 rfl))) ?_;rintro v S1 hk1 ⟨Qpost,rfl,hpost⟩ hl
   refine zg ?_
   constructor<;>intro h73
   ·
    refine zg ?_;refine re_buildSliceR hl rfl rfl rfl rfl rfl Tryz.underlying38 rfl (c:=ic 1) (by kernel_rfl) ?_;intro Br S1 hr hl;refine re_appendG hl 0 rfl rfl (by simp) rfl rfl rfl rfl rfl rfl rfl Tryz.underlying38 Tryz.underlying38 rfl rfl (by kernel_rfl) (src_row_ (n:=1) (cap:=1) hr rfl) rfl rfl (by kernel_rfl) (by show D.length+1≤maxNeed;unfold maxNeed;omega) ?_;intro vn S1 hl
    obtain⟨av2,rfl⟩:∃x,vn= .slice x (D.length+1) (D.length+1):=Grow.is_ (hl.gr _ (List.mem_cons_self ..))
    have hl:HoldG S [S] S1 _ [gI' av2 (D++[1])]:=gI_ok hl
    refine zg ?_
    exact⟨rfl,av2,_,by rw[len_push];omega,hA.push ⟨fun _=>hpost h73 s hs,fun h=>by omega,fun h=>by omega⟩,⟨by rw[len_push];rfl,rfl,rfl,rfl,trivial⟩,hl⟩
   refine zg ?_
   exact⟨rfl,av,D,by omega,hA,⟨rfl,rfl,rfl,rfl,trivial⟩,hl⟩
  clear hl hD;rintro Le S1 ⟨av,D,hD,hA,hsub,hl⟩;refine xe_sub hsub ?_
  refine zg ?_
  refine zc hl rfl (spec282 B x hm (hl.keep.3 hF) ⟨fun g=>hd.at_ (hl.keep.trans g)⟩ hx (hk.move (hl.since 0 rfl))) ?_;rintro v S1 hk1 ⟨Qante,rfl,hante⟩ hl
  refine zg ?_
  constructor<;>intro h79
  ·
   refine zg ?_;refine re_buildSliceR hl rfl rfl rfl rfl rfl Tryz.underlying38 rfl (c:=ic 2) (by kernel_rfl) ?_;intro Br S1 hr hl;refine re_appendG hl 0 rfl rfl (by simp) rfl rfl rfl rfl rfl rfl rfl Tryz.underlying38 Tryz.underlying38 rfl rfl (by kernel_rfl) (src_row_ (n:=1) (cap:=1) hr rfl) rfl rfl (by kernel_rfl) (by show D.length+1≤maxNeed;unfold maxNeed;omega) ?_;intro vn S1 hl
   obtain⟨av2,rfl⟩:∃x,vn= .slice x (D.length+1) (D.length+1):=Grow.is_ (hl.gr _ (List.mem_cons_self ..))
   have hl:HoldG S [S] S1 _ [gI' av2 (D++[2])]:=gI_ok hl
   refine zg ?_
   exact y1 rfl ⟨hl.keep,av2,_,by rw[len_push],Grow.ls (f:=ic) (fun _=>rfl) (hl.gr _ (List.mem_cons_self ..)),by rw[len_push];omega,fun u hu=>by rw[hs]at hu;cases hu;exact hA.push ⟨fun h=>by omega,fun _=>hante h79 s hs,fun h=>by omega⟩⟩
  refine zg ?_
  exact y1 rfl ⟨hl.keep,av,D,rfl,Grow.ls (f:=ic) (fun _=>rfl) (hl.gr _ (List.mem_cons_self ..)),by omega,fun u hu=>by rw[hs]at hu;cases hu;exact hA⟩
 refine xp_seq rfl (xe_cut (fun Le S'=>∃(av:Option Addr) (D:List Int),D.length≤1∧AlwOk s D∧SubE [(5,.slice av D.length D.length),(3,.int .i64 (x.M.length:Int)),(2,.slice none 0 0),(0,ptrTo B 0)] Le∧HoldG S [S] S' [(B4,.cells s.cells 328 false true [])] [gI' av D]) ?_ ?_)
 ·
  refine xp_seq rfl (xe_toI 54 (fun v S'=>∃B:Bool,v= .bool B∧(B=true→0≤s.l∧0≤s.r)∧HoldG S [S] S' [(B4,.cells s.cells 328 false true [])] [gI' av D]) ?_ ?_)
  ·
   refine zg ?_
   refine zc hl rfl (spec281 B x hm (hl.keep.3 hF) ⟨fun g=>hd.at_ (hl.keep.trans g)⟩ hx (hk.move (hl.since 0 rfl))) ?_;rintro v S1 hk1 ⟨Qpost,rfl,hpost⟩ hl
   refine zg ?_;refine re_bool (d:=50) rfl (fun h50=>?_) (fun h50=>?_)
   ·
    refine zg ?_
    refine zc hl rfl (spec282 B x hm (hl.keep.3 hF) ⟨fun g=>hd.at_ (hl.keep.trans g)⟩ hx (hk.move (hl.since 0 rfl))) ?_;rintro v S1 hk1 ⟨Qante,rfl,hante⟩ hl
    refine zg ?_
    exact⟨rfl,_,bl rfl,sB,_,rfl,fun h=>⟨hpost h50 s hs,hante h s hs⟩,hl⟩
   refine zg ?_
   exact⟨rfl,_,bl rfl,sB,false,rfl,nofun,hl⟩
  rintro v S1 ⟨Q54,rfl,hB54,hl⟩
  refine zg ?_
  constructor<;>intro h54
  ·
   refine zg ?_;refine re_buildSliceR hl rfl rfl rfl rfl rfl Tryz.underlying38 rfl (c:=ic 3) (by kernel_rfl) ?_;intro Br S1 hr hl;refine re_appendG hl 0 rfl rfl (by simp) rfl rfl rfl rfl rfl rfl rfl Tryz.underlying38 Tryz.underlying38 rfl rfl (by kernel_rfl) (src_row_ (n:=1) (cap:=1) hr rfl) rfl rfl (by kernel_rfl) (by show D.length+1≤maxNeed;unfold maxNeed;omega) ?_;intro vn S1 hl
   obtain⟨av2,rfl⟩:∃x,vn= .slice x (D.length+1) (D.length+1):=Grow.is_ (hl.gr _ (List.mem_cons_self ..))
   have hl:HoldG S [S] S1 _ [gI' av2 (D++[3])]:=gI_ok hl
   refine zg ?_
   exact⟨rfl,av2,_,by rw[len_push];omega,hA.push ⟨fun _=>(hB54 h54).1,fun _=>(hB54 h54).2,fun h=>by omega⟩,⟨by rw[len_push];rfl,rfl,rfl,rfl,trivial⟩,hl⟩
  refine zg ?_
  exact⟨rfl,av,D,by omega,hA,⟨rfl,rfl,rfl,rfl,trivial⟩,hl⟩
 clear hl hD;rintro Le S1 ⟨av,D,hD,hA,hsub,hl⟩;refine xe_sub hsub ?_
 refine zg ?_
 refine zc hl rfl (spec283 B x hm (hl.keep.3 hF) ⟨fun g=>hd.at_ (hl.keep.trans g)⟩ hx (hk.move (hl.since 0 rfl))) ?_;rintro v S1 hk1 ⟨Qalter,rfl,halter⟩ hl
 refine zg ?_
 constructor<;>intro h60
 ·
  refine zg ?_;refine re_buildSliceR hl rfl rfl rfl rfl rfl Tryz.underlying38 rfl (c:=ic 4) (by kernel_rfl) ?_;intro Br S1 hr hl;refine re_appendG hl 0 rfl rfl (by simp) rfl rfl rfl rfl rfl rfl rfl Tryz.underlying38 Tryz.underlying38 rfl rfl (by kernel_rfl) (src_row_ (n:=1) (cap:=1) hr rfl) rfl rfl (by kernel_rfl) (by show D.length+1≤maxNeed;unfold maxNeed;omega) ?_;intro vn S1 hl
  obtain⟨av2,rfl⟩:∃x,vn= .slice x (D.length+1) (D.length+1):=Grow.is_ (hl.gr _ (List.mem_cons_self ..))
  have hl:HoldG S [S] S1 _ [gI' av2 (D++[4])]:=gI_ok hl
  refine zg ?_
  exact y1 rfl ⟨hl.keep,av2,_,by rw[len_push],Grow.ls (f:=ic) (fun _=>rfl) (hl.gr _ (List.mem_cons_self ..)),by rw[len_push];omega,fun u hu=>by rw[hs]at hu;cases hu;exact hA.push ⟨fun h=>by omega,fun h=>by omega,fun _=>halter h60 s hs⟩⟩
 refine zg ?_
 exact y1 rfl ⟨hl.keep,av,D,rfl,Grow.ls (f:=ic) (fun _=>rfl) (hl.gr _ (List.mem_cons_self ..)),by omega,fun u hu=>by rw[hs]at hu;cases hu;exact hA⟩
end Go.Proofs.YtmfphenhpkgidaaGreatDoor
namespace Go.Proofs.YtmfphenhpkgidaaGreatDoor
open Go.Cm Go
set_option maxRecDepth 100000
variable{S:St}
theorem setN_skip_{a:Value}{z:List Value}{c:List Value}:∀(p:List Value) {k:Nat} {r:List Value},setN k (a::z) c=some r→setN (p.length+k) (a::z) (p++c)=some (p++r)
 | [],k,r,h=>by rw[List.length_nil,Nat.zero_add];exact h
 |x::p,k,r,h=>by
  have e:=setN_skip_ p h
  rw[List.length_cons,show p.length+1+k=(p.length+k)+1 by omega]
  simp only[List.cons_append,setN,e]
theorem setN_suf(r:List Value):∀(o:Nat) (w c:List Value) {d:List Value},setN o w c=some d→setN o w (c++r)=some (d++r)
 |_,[],c,d,h=>by
  have e:some c=some d:=by rw[←h];unfold setN;rfl
  cases e
  unfold setN;rfl
 |0,_::_,[],_,h=>by cases h
 |0,x::xs,y::l,d,h=>by
  unfold setN at h
  split at h
  ·rename_i q hq
   cases h
   have e:=setN_suf r 0 xs l hq
   rw[List.cons_append]
   unfold setN
   rw[e]
   rfl
  cases h
 |_+1,_::_,[],_,h=>by cases h
 |o+1,x::xs,y::l,d,h=>by
  unfold setN at h
  split at h
  ·rename_i q hq
   cases h
   have e:=setN_suf r o (x::xs) l hq
   rw[List.cons_append]
   unfold setN
   rw[e]
   rfl
  cases h
theorem setN_el{α:Type}{f:α→List Value}{z:Nat}(hz:∀x,(f x).length=z){a:Value}{w:List Value}{x y:α}{j:Nat}(hw:setN j (a::w) (f x)=some (f y)):∀(D:List α) (i:Nat),nth D i=some x→setN (i*z+j) (a::w) ((D.map f).flatten)=some (((D.set i y).map f).flatten)
 | [],_,h=>by cases h
 |q::D,0,h=>by
  cases h
  rw[Nat.zero_mul,Nat.zero_add]
  exact setN_suf _ j _ _ hw
 |q::D,i+1,h=>by
  have e:=setN_skip_ (f q) (setN_el hz hw D i h)
  rw[hz,show z+(i*z+j)=(i+1)*z+j by rw[Nat.add_mul];omega]at e
  exact e
theorem rp_boxL{P:Program}{K:Known}{n:Nat}{L:Env}{S S0:St}{Q:Post}{ops:List Oper}{o:Oper}{Ts:List St}{l:List (Nat×Blk)}{gs:List Gr}{bef:List Nat}{pl:List (Oper×Nat)}{q j d:Nat}{E:List CkE}(hF:Fresh S0)(hl:HoldG S0 Ts S l gs){e:TypeId}{x:Operand}{v:Value}(ho:nth pl q=some (o,j))(hop:o.op= .box e x)(hw:wantE ops L o=some true)(hd:o.dst=some d)(hn:Nat.blt d n=true)(hx:Cm.evE L x=some v)
  (h:∀B S',HoldG S0 Ts S' ((B,.cells (cellsL v) e false true [])::l) gs→RP P K n ops bef pl (q+1) (⟨j,o.op,undef,L,some (B,cellsL v,e,false)⟩::E) ((d,ptrTo B 0)::L) S' Q):RP P K n ops bef pl q E L S Q :=
 rp_fresh ho (by rw[hop];rfl) hw hd hn (fun a ha=>by rw[hop];simp only[newOp,ha.ev hx];rfl) (hl.keep.3 hF _ (Nat.le_refl _)) (h _ _ (hl.new _))
abbrev OwI(v:Value)(C:List It)(fr:List (Nat×Blk)):Prop:=OW v 266 12 ((C.map It.cells).flatten) C.length fr
theorem OW.at_{α:Type}{f:α→List Value}{C:List α}{v:Value}{e:TypeId}{z:Nat}{fr l:List (Nat×Blk)}{S0 T:St}{Ts:List St}{gs:List Gr}(hz:∀x,(f x).length=z)(h:OW v e z ((C.map f).flatten) C.length fr)(hl:HoldG S0 Ts T l gs)(hm:∀p,p∈fr→p∈l):LsOf e z f T v C:=by
 rcases h with ⟨rfl,_,h3,_⟩|⟨b,dd,rfl,_,rfl,_⟩
 ·have:C= []:=List.length_eq_zero_iff.1 h3
  subst this
  exact LsOf.nil
 obtain⟨h1,_,h2⟩:=hl.at_ b _ (hm _ (List.mem_cons_self ..))
 exact LsOf.row hz ⟨h2,_,_,h1⟩ rfl
theorem rp_builtin{P:Program}{K:Known}{n:Nat}{L:Env}{S S':St}{Q:Post}{ops:List Oper}{o:Oper}{bef:List Nat}{pl:List (Oper×Nat)}{q j d:Nat}{E:List CkE}{bi:Builtin}{ar:Array Operand}{ts:Array TypeId}{vs:List Value}{v:Value}(ho:nth pl q=some (o,j))(hop:o.op= .call ⟨.builtin bi,ar,ts⟩)(hw:wantE ops L o=some true)(hd:o.dst=some d)(hn:Nat.blt d n=true)
  (hb:kindOf (.call ⟨.builtin bi,ar,ts⟩)= .heavy)(hx:Cm.evs L ar.toList=some vs)(hv:builtinV P bi ts.toList vs S=some (v,S'))(h:Stays P n S' ((nth bef j).getD 0) E∧RP P K n ops bef pl (q+1) (left ((nth bef j).getD 0) E) ((d,v)::L) S' Q):RP P K n ops bef pl q E L S Q :=
 rp_heavyD ho (by rw[hop];exact hb) hw hd hn (fun a ha=>⟨0,by rw[hop];unfold stepOp;rw[hb];simp only[evs_eq ha hx,hv]⟩) h.1 h.2
theorem OwI.set{b n i o:Nat}{L:List It}{q fr l:List (Nat×Blk)}{Sb S:St}{x y:It}{v:Ti}(hO:OwI (.slice (some ⟨b,0,none⟩) n n) L fr)(hL:L.length=n)(hx:nth L i=some x)(hs:setN o v.cells x.cells=some y.cells)(hl:HoldG Sb [Sb] S (q++(fr++l)) []) :
  ∃S' fr',storeV Tryz.prog 103 (ptrTo b (0+i*12+o)) v.v S=some S'∧OwI (.slice (some ⟨b,0,none⟩) n n) (L.set i y) fr'∧HoldG Sb [Sb] S' (q++(fr'++l)) []:=by
 have hn:0<n:=by have:=nth_lt hx;omega
 subst hL
 obtain⟨bx,S',fr',e1,hs1,hO2,hl2⟩:=store_W (P:=Tryz.prog) (k:=0+i*12+o) (t:=103) (u:=v.v) hl hO hn rfl (by kernel_rfl) (by rw[Nat.zero_add];exact setN_el (f:=It.cells) (z:=12) (fun _=>rfl) (j:=o) hs _ i hx) ((flat_len (f:=It.cells) (z:=12) (fun _=>rfl) _).trans ((congrArg (· *12) List.length_set).trans (flat_len (f:=It.cells) (z:=12) (fun _=>rfl) _).symm))
 cases e1
 refine⟨S',fr',hs1,?_,hl2⟩
 unfold OwI
 rw[List.length_set]
 exact hO2
theorem mem_mid{α:Type}{q fr l:List α}:∀p,p∈fr→p∈q++(fr++l):=fun _ hp=>List.mem_append.2 (.inr (List.mem_append.2 (.inl hp)))
section
variable{n:Nat}{ro:Option Nat}{L:Env}{S S0:St}{Q:Post}{ops:List Oper}{i d:Nat}{o:Oper}{P:Program}{K:Known}{a:Option Addr}
theorem append_0(ha:a=none∨∃b,a=some ⟨b,0,none⟩){e:TypeId}{z len:Nat}{ts:Array TypeId}{sT xT:TypeId}{xd:TypeDesc}{x:Value}(hts:ts.toList= [sT,xT])(hu:P.underlying sT=some (.slice e))(hux:P.underlying xT=some xd)(hi:isIntT xd=false)(hlen:lenOfV x=some 0)(hz:szOf P e=some z)(hs:sourceCells S z 0 x=some []):builtinV P .append ts.toList [.slice a len len,x] S=some (.slice a len len,S):=by
 unfold builtinV
 simp only
 have:appendV P ts.toList (.slice a len len) x S=some (.slice a len len,S):=by
  unfold appendV
  rw[hts]
  simp only[hu,hux,hlen,hi,hz,hs,cond_false]
  unfold append2
  have hb:Nat.ble (len+0) len=true:=Nat.ble_eq_true_of_le (Nat.le_refl _)
  rw[hb]
  simp only[cond_true]
  unfold appendIn
  rcases ha with rfl|⟨b,rfl⟩<;>rfl
 rw[this]
theorem OW.sh{v:Value}{e:TypeId}{z len:Nat}{c:List Value}{fr:List (Nat×Blk)}(h:OW v e z c len fr):(∃a,v= .slice a len len∧(a=none∨∃b,a=some ⟨b,0,none⟩))∧c.length=len*z:=by
 rcases h with ⟨rfl,rfl,rfl,_⟩|⟨b,dd,rfl,h2,_⟩
 ·exact⟨⟨none,rfl,.inl rfl⟩,by rw[Nat.zero_mul];rfl⟩
 exact⟨⟨_,rfl,.inr ⟨b,rfl⟩⟩,h2⟩
theorem rp_appendX2{q l:List (Nat×Blk)}{Ts:List St}{v:Value}{e:TypeId}{z len:Nat}{c:List Value}{fr:List (Nat×Blk)}{bef:List Nat}{pl:List (Oper×Nat)}{k j:Nat}{E:List CkE}(hl:HoldG S0 Ts S (q++(fr++l)) [])(hg:OW v e z c len fr){ar:Array Operand}{ts:Array TypeId}{sT xT:TypeId}{xd:TypeDesc}{x:Value}{m:Nat}{new:List Value}
  (ho:nth pl k=some (o,j))(hop:o.op= .call ⟨.builtin .append,ar,ts⟩)(hw:wantE ops L o=some true)(hdst:o.dst=some d)(hlt:Nat.blt d n=true)(hx:Cm.evs L ar.toList=some [v,x])(hts:ts.toList= [sT,xT])
  (hu:P.underlying sT=some (.slice e))(hux:P.underlying xT=some xd)(hi:isIntT xd=false)(hlen:lenOfV x=some m)(hz:szOf P e=some z)(hs:sourceCells S z m x=some new)
  (hnl:new.length=m*z)(hc:new.all cellV=true)(hgb:growB P e z=true)(hneed:len+m≤maxNeed)
  (h:∀v' fr' S',OW v' e z (c++new) (len+m) fr'→HoldG S0 Ts S' (q++(fr'++l)) []→Stays P n S' ((nth bef j).getD 0) E∧RP P K n ops bef pl (k+1) (left ((nth bef j).getD 0) E) ((d,v')::L) S' Q):RP P K n ops bef pl k E L S Q:=by
 rcases Nat.eq_zero_or_pos m with hm|hm
 ·subst hm
  have hnew:new= []:=List.length_eq_zero_iff.1 (by rw[hnl,Nat.zero_mul])
  subst hnew
  obtain⟨⟨a,rfl,ha⟩,_⟩:=hg.sh
  exact rp_builtin ho hop hw hdst hlt rfl hx (append_0 ha hts hu hux hi hlen hz hs) (h _ fr S (by rw[List.append_nil];exact hg) hl)
 exact rp_appendW hl hg ho hop hw hdst hlt hx hts hu hux hi hlen hm hz hs hnl hc hgb hneed h
end
abbrev OwN(v:Value)(C:List Int)(fr:List (Nat×Blk)):Prop:=OW v 3 1 ((C.map ic).flatten) C.length fr
def StH(Sb S:St)(B:Nat)(x:Sta):Prop:= ∃fN fM,OwI (.slice x.an x.N.length x.N.length) x.N fN∧OwN (.slice x.am x.M.length x.M.length) x.M fM∧HoldG Sb [Sb] S ([(B,x.blk)]++(fN++(fM++[]))) []
structure Sta.Old(S:St)(x:Sta):Prop where
 l:Its S (.slice x.al x.L.length x.cl) x.L
 g:Ses S (.slice x.ag x.G.length x.cg) x.G
theorem StH.keep{Sb S:St}{B:Nat}{x:Sta}(h:StH Sb S B x):Keep Sb S:=by
 obtain⟨_,_,_,_,hl⟩:=h
 exact hl.keep
theorem StH.ok{Sb S:St}{B:Nat}{x:Sta}(h:StH Sb S B x)(ho:x.Old Sb):x.Ok S:=by
 obtain⟨fN,fM,hN,hM,hl⟩:=h
 exact⟨ho.l.move (hl.since 0 rfl),OW.at_ (f:=It.cells) (fun _=>rfl) hN hl mem_mid,ho.g.move (hl.since 0 rfl),OW.at_ (f:=ic) (fun _=>rfl) hM hl (fun p hp=>List.mem_append.2 (.inr (List.mem_append.2 (.inr (List.mem_append.2 (.inl hp))))))⟩
theorem StH.at_{Sb S:St}{B:Nat}{x:Sta}(h:StH Sb S B x):At S B x.blk:=by
 obtain⟨fN,fM,hN,hM,hl⟩:=h
 have h3:=hl.at_ B _ (List.mem_cons_self ..)
 exact⟨fun g=>(g.2 B h3.2.2).trans h3.1⟩
end Go.Proofs.YtmfphenhpkgidaaGreatDoor
namespace Go.Proofs.YtmfphenhpkgidaaGreatDoor
open Go.Cm Go
set_option maxRecDepth 100000
variable{S:St}
structure BdsOk(m:Int)(n:Nat)(D:List Bd):Prop where
 p:D.Pairwise fun a b=>a.t≤b.f
 b:∀d,d∈D→0≤d.f∧d.f≤d.t∧d.t≤m∧ -1≤d.i∧d.i<n
theorem BdsOk.push{m m':Int}{n:Nat}{D:List Bd}(h:BdsOk m n D){x:Bd}(h0:0≤m)(h1:m≤x.f)(h2:x.f≤x.t)(h3:x.t≤m')(h4: -1≤x.i)(h5:x.i<n):BdsOk m' n (D++[x]):=by
 refine⟨List.pairwise_append.2 ⟨h.p,List.pairwise_singleton _ _,fun a ha b hb=>?_⟩,fun d hd=>?_⟩
 ·rw[List.mem_singleton.1 hb]
  have:=h.b a ha
  omega
 rcases List.mem_append.1 hd with h6|h6
 ·have:=h.b d h6
  omega
 rw[List.mem_singleton.1 h6]
 omega
theorem BdsOk.up{m m':Int}{n:Nat}{D:List Bd}(h:BdsOk m n D)(h0:m≤m'):BdsOk m' n D:=⟨h.p,fun d hd=>by have:=h.b d hd;omega⟩
abbrev gB(av:Option Addr)(D:List Bd):Gr:=gOf 325 3 Bd.cells (.slice av D.length D.length) D
abbrev envB(a:Option Addr)(cap n:Nat)(k:Int)(i:Int)(av:Option Addr)(D:List Bd):Env:=[(6,.int .i64 i),(5,.slice av D.length D.length),(4,.slice none 0 0),(0,.int .i64 k),(1,.slice a n cap)]
theorem envB_ok{a:Option Addr}{cap n:Nat}{k i:Int}{av:Option Addr}{D:List Bd}{x:Bd}{L:Env}(h:SubE [(6,.int .i64 i),(5,.slice av (D.length+1) (D.length+1)),(4,.slice none 0 0),(0,.int .i64 k),(1,.slice a n cap)] L):SubE (envB a cap n k i av (D++[x])) L:=by
 unfold envB
 rw[len_push]
 exact h
theorem gB_ok{Ts:List St}{S0 S1:St}{l:List (Nat×Blk)}{av:Option Addr}{D:List Bd}{x:Bd}(h:HoldG S0 Ts S1 l [⟨.slice av (D.length+1) (D.length+1),325,3,(D.map Bd.cells).flatten++x.cells,D.length+1⟩]):HoldG S0 Ts S1 l [gB av (D++[x])]:=by
 unfold gB
 rw[gOf_push]
 exact h
noncomputable def cd229:Code:=Tryz.f229.body.getD .skip
theorem spec229(k:Int)(a:Option Addr)(cap:Nat)(C:List It)(hn:C.length≤1000)(_:Fresh S)(hv:Its S (.slice a C.length cap) C):CC Tryz.prog KK 229 [.int .i64 k,.slice a C.length cap] S (fun v S'=>Keep S S'∧(∃av D,v= .slice av D.length D.length∧Bds S' v D∧BdsOk C.length C.length D∧2≤D.length∧D.length≤2*C.length+2)):=by
 refine cc_enter (c:=cd229) (n:=69) Tryz.func229 rfl rfl rfl (by kernel_rfl) rfl rfl ?_
 have hl:=Hold.start S
 refine zg ?_;refine rr rfl (rd_build rfl rfl (v:=aggL [.int .i64 0,.int .i64 0,.int .i64 (-1)]) (by rfl)) ?_;refine re_buildSliceG hl 3 rfl rfl rfl rfl rfl Tryz.underlying322 rfl (c:=[.int .i64 0,.int .i64 0,.int .i64 (-1)]) (by kernel_rfl) rfl ?_;intro w8 S1 hl
 obtain⟨av,rfl⟩:∃x,w8= .slice x 1 1:=Grow.is_ (hl.gr _ (List.mem_cons_self ..))
 have hl:HoldG S [S] S1 [] [gB av [⟨0,0, -1⟩]]:=hl
 refine zA ?_;refine xp_seq rfl ?_;refine zS ?_;refine xp_block rfl ?_;refine xe_sub (L':=envB a cap C.length k 0 av [⟨0,0, -1⟩]) ⟨rfl,rfl,rfl,rfl,rfl,trivial⟩ ?_
 refine xp_loop rfl (fun m Le S'=>∃(i:Nat) (av:Option Addr) (D:List Bd),i≤C.length∧m=C.length-i∧BdsOk i C.length D∧1≤D.length∧D.length≤2*i+1∧SubE (envB a cap C.length k i av D) Le∧HoldG S [S] S' [] [gB av D]) ?_ (m:=C.length) ⟨0,av,_,by omega,by omega,⟨List.pairwise_singleton _ _,fun d hd=>by rw[List.mem_singleton.1 hd];exact⟨by decide,by decide,by decide,by decide,by show(-1:Int)<_;omega⟩⟩,by show 1≤1;omega,by show 1≤_;omega,⟨rfl,rfl,rfl,rfl,rfl,trivial⟩,hl⟩
 clear hl;rintro m Le S' ⟨i,av,D,hi,rfl,hD,hD1,hD2,hsub,hl⟩;refine xe_sub hsub ?_
 refine zg ?_
 constructor<;>intro h12
 ·
  have hlt:i<C.length:=by have:=of_decide_eq_true h12;omega
  obtain⟨x,hx⟩:=nth_some hlt
  obtain⟨b1,o1,cs1,ha,_,hrow,htk⟩:=hv.elem hx
  refine xp_skip rfl ?_;refine xp_seq rfl ?_;refine xp_block rfl ?_;refine xp_seq rfl (xe_cut (fun Le S'=>∃(m:Int) (av:Option Addr) (D:List Bd),(m=i∨m=i+1)∧BdsOk m C.length D∧1≤D.length∧D.length≤2*i+2∧SubE (envB a cap C.length k i av D) Le∧HoldG S [S] S' [] [gB av D]) ?_ ?_)
  ·
   refine xp_seq rfl (xe_toW hl 29 Value.bool ?_ rfl ?_)
   ·
    refine zg ?_;refine rr rfl (rd_un rfl rfl rfl) ?_;refine zg ?_;refine re_bool (d:=21) rfl (fun h21=>?_) (fun h21=>?_)
    ·
     refine zg ?_
     exact⟨rfl,⟨_,bl rfl⟩,sB,hl⟩
    refine zg ?_
    exact⟨rfl,⟨_,bl rfl⟩,sB,hl⟩
   intro q29 S1 hl
   refine zg ?_
   constructor<;>intro h29
   ·
    refine zg ?_;refine rr rfl (rd_build rfl rfl (v:=aggL [.int .i64 (i:Int),.int .i64 ((i:Int)+1),.int .i64 (i:Int)]) (by rfl)) ?_;refine re_buildSliceR hl rfl rfl rfl rfl rfl Tryz.underlying322 rfl (c:=(Bd.mk i (i+1) i).cells) (by kernel_rfl) ?_;intro B36 S1 hr36 hl;refine re_appendG hl 0 rfl rfl (by simp) rfl rfl rfl rfl rfl rfl rfl Tryz.underlying322 Tryz.underlying322 rfl rfl (by kernel_rfl) (src_row_ (n:=1) (cap:=1) hr36 rfl) rfl rfl (by kernel_rfl) (by show D.length+1≤maxNeed;unfold maxNeed;omega) ?_;intro v37 S1 hl
    obtain⟨av2,rfl⟩:∃x,v37= .slice x (D.length+1) (D.length+1):=Grow.is_ (hl.gr _ (List.mem_cons_self ..))
    have hl:HoldG S [S] S1 [] [gB av2 (D++[Bd.mk i (i+1) i])]:=gB_ok hl
    refine zg ?_
    exact⟨rfl,(i:Int)+1,av2,D++[Bd.mk i (i+1) i],.inr rfl,hD.push (by omega) (Int.le_refl _) (by show(i:Int)≤i+1;omega) (Int.le_refl _) (by show(-1:Int)≤i;omega) (by show(i:Int)<_;omega),by rw[len_push];omega,by rw[len_push];omega,envB_ok ⟨rfl,rfl,rfl,rfl,rfl,trivial⟩,hl⟩
   refine xp_skip rfl ?_
   exact⟨rfl,_,av,D,.inl rfl,hD,hD1,by omega,⟨rfl,rfl,rfl,rfl,rfl,trivial⟩,hl⟩
  clear hl hD hD1 hD2 hsub;rintro Le S1 ⟨m,av,D,hm,hD,hD1,hD2,hsub,hl⟩;refine xe_sub hsub ?_
  refine xp_seq rfl (xe_toW hl 52 Value.bool ?_ rfl ?_)
  ·
   refine zg ?_;refine re_bool (d:=44) rfl (fun h44=>?_) (fun h44=>?_)
   ·
    refine zg ?_
    exact⟨rfl,⟨_,bl rfl⟩,sB,hl⟩
   refine zg ?_
   exact⟨rfl,⟨_,bl rfl⟩,sB,hl⟩
  intro q52 S1 hl
  refine zg ?_
  constructor<;>intro h52
  ·
   refine zg ?_;refine rr rfl (rd_build rfl rfl (v:=aggL [.int .i64 ((i:Int)+1),.int .i64 ((i:Int)+1),.int .i64 (-1)]) (by rfl)) ?_;refine re_buildSliceR hl rfl rfl rfl rfl rfl Tryz.underlying322 rfl (c:=(Bd.mk (i+1) (i+1) (-1)).cells) (by kernel_rfl) ?_;intro B36 S1 hr36 hl;refine re_appendG hl 0 rfl rfl (by simp) rfl rfl rfl rfl rfl rfl rfl Tryz.underlying322 Tryz.underlying322 rfl rfl (by kernel_rfl) (src_row_ (n:=1) (cap:=1) hr36 rfl) rfl rfl (by kernel_rfl) (by show D.length+1≤maxNeed;unfold maxNeed;omega) ?_;intro v37 S1 hl
   obtain⟨av2,rfl⟩:∃x,v37= .slice x (D.length+1) (D.length+1):=Grow.is_ (hl.gr _ (List.mem_cons_self ..))
   have hl:HoldG S [S] S1 [] [gB av2 (D++[Bd.mk (i+1) (i+1) (-1)])]:=gB_ok hl
   refine zg ?_
   exact⟨C.length-(i+1),by omega,i+1,av2,D++[Bd.mk (i+1) (i+1) (-1)],by omega,rfl,hD.push (by omega) (by show m≤(i:Int)+1;omega) (Int.le_refl _) (by show(i:Int)+1≤((i+1:Nat):Int);omega) (Int.le_refl _) (by show(-1:Int)<_;omega),by rw[len_push];omega,by rw[len_push];omega,envB_ok ⟨rfl,rfl,rfl,rfl,rfl,trivial⟩,hl⟩
  refine zg ?_
  exact⟨C.length-(i+1),by omega,i+1,av,D,by omega,rfl,hD.up (by omega),hD1,by omega,⟨rfl,rfl,rfl,rfl,rfl,trivial⟩,hl⟩
 have hi2:i=C.length:=by have:=of_decide_eq_false h12;omega
 subst hi2
 refine zg ?_;refine rr rfl (rd_build rfl rfl (v:=aggL [.int .i64 (C.length:Int),.int .i64 (C.length:Int),.int .i64 (-1)]) (by rfl)) ?_;refine re_buildSliceR hl rfl rfl rfl rfl rfl Tryz.underlying322 rfl (c:=(Bd.mk C.length C.length (-1)).cells) (by kernel_rfl) ?_;intro B36 S1 hr36 hl;refine re_appendG hl 0 rfl rfl (by simp) rfl rfl rfl rfl rfl rfl rfl Tryz.underlying322 Tryz.underlying322 rfl rfl (by kernel_rfl) (src_row_ (n:=1) (cap:=1) hr36 rfl) rfl rfl (by kernel_rfl) (by show D.length+1≤maxNeed;unfold maxNeed;omega) ?_;intro v37 S1 hl
 obtain⟨av2,rfl⟩:∃x,v37= .slice x (D.length+1) (D.length+1):=Grow.is_ (hl.gr _ (List.mem_cons_self ..))
 have hl:HoldG S [S] S1 [] [gB av2 (D++[Bd.mk C.length C.length (-1)])]:=gB_ok hl
 refine zg ?_
 exact y1 rfl ⟨hl.keep,av2,D++[Bd.mk C.length C.length (-1)],by rw[len_push],Grow.ls (f:=Bd.cells) (fun _=>rfl) (by rw[←len_push];exact hl.gr _ (List.mem_cons_self ..)),hD.push (by omega) (Int.le_refl _) (Int.le_refl _) (Int.le_refl _) (Int.le_refl _) (by show(-1:Int)<_;omega),by rw[len_push];omega,by rw[len_push];omega⟩
end Go.Proofs.YtmfphenhpkgidaaGreatDoor
namespace Go.Proofs.YtmfphenhpkgidaaGreatDoor
open Go.Cm Go
set_option maxRecDepth 100000
variable{S:St}
abbrev gS(av:Option Addr)(D:List Se):Gr:=gOf 328 7 Se.cells (.slice av D.length D.length) D
theorem gS_ok{Ts:List St}{S0 S1:St}{l:List (Nat×Blk)}{av:Option Addr}{D:List Se}{x:Se}(h:HoldG S0 Ts S1 l [⟨.slice av (D.length+1) (D.length+1),328,7,(D.map Se.cells).flatten++x.cells,D.length+1⟩]):HoldG S0 Ts S1 l [gS av (D++[x])]:=by
 unfold gS
 rw[gOf_push]
 exact h
def SegR(S':St)(n:Nat)(v:Value):Prop:=(∃e:Int,e≠0∧v=tupV [.slice none 0 0,.int .i64 e])∨∃av D,v=tupV [.slice av D.length D.length,.int .i64 0]∧Ses S' (.slice av D.length D.length) D∧D.length≤2*n+1∧∀x,x∈D→SeOk n x
noncomputable def cd184:Code:=Tryz.f184.body.getD .skip
theorem spec184(p q r t k:Int)(a:Option Addr)(cap:Nat)(C:List It)(hk: -50≤k∧k≤50)(hn:C.length≤1000)(hF:Fresh S)(hv:Its S (.slice a C.length cap) C):CC Tryz.prog KK 184 [mV4 p q r t,.int .i64 k,.slice a C.length cap] S (fun v S'=>Keep S S'∧(SegR S' C.length v)):=by
 refine cc_enter (c:=cd184) (n:=98) Tryz.func184 rfl rfl rfl (by kernel_rfl) rfl rfl ?_
 have hl:=Hold.start S
 refine zg ?_;refine re_boxL hl rfl rfl rfl rfl rfl rfl ?_
 intro B3 S3 hl
 refine zg ?_
 refine zc hl rfl (spec227 p q r t k hk) ?_;rintro v S1 hk1 ⟨u,e,rfl⟩ hl
 refine zg ?_;refine re_allocL hl rfl rfl rfl rfl rfl (z:=[.int .i64 0,.int .i64 0]) (by kernel_rfl) ?_
 intro B8 S8 hl
 refine re_storeL hl 0 rfl rfl rfl rfl rfl rfl rfl (by kernel_rfl) (c':=u.cells) rfl ?_
 intro S1 hl
 refine zg ?_
 constructor<;>intro h23
 ·
  refine zg ?_
  exact(z2 rfl rfl ⟨hl.keep,.inl ⟨e,by simpa using h23,rfl⟩⟩)
 refine zg ?_
 refine zc hl rfl (spec228 a cap C hn (hl.keep.3 hF) (hv.move (hl.since 0 rfl))) ?_;rintro v S1 hk1 ⟨e2,i2,rfl⟩ hl
 refine zg ?_
 constructor<;>intro h31
 ·
  refine zg ?_
  exact(z2 rfl rfl ⟨hl.keep,.inl ⟨e2,by simpa using h31,rfl⟩⟩)
 refine zg ?_
 refine zc hl rfl (spec229 k a cap C hn (hl.keep.3 hF) (hv.move (hl.since 0 rfl))) ?_;rintro v S1 hk1 ⟨ab,D,rfl,hB,hD,hD1,hD2⟩ hl
 have hl:=hl.mark
 refine zA ?_;refine zS ?_;refine xp_seq rfl ?_;refine zS ?_;refine xp_block rfl ?_
 have hl:=hl.addG (g:=gS none []) (.inl ⟨rfl,rfl,rfl⟩)
 refine xe_sub (L':=[(12,.int .i64 0),(11,.slice none 0 0),(10,.slice ab D.length D.length),(8,ptrTo B8 0),(7,.int .i64 0),(6,.slice none 0 0),(2,.slice a C.length cap)]) ⟨rfl,rfl,rfl,rfl,rfl,rfl,rfl,trivial⟩ ?_
 refine xp_loop rfl (fun m Le S'=>∃(i:Nat) (av:Option Addr) (O:List Se),i+1≤D.length∧m=D.length-i∧O.length=i∧(∀x,x∈O→SeOk C.length x)∧SubE [(12,.int .i64 (i:Int)),(11,.slice av O.length O.length),(10,.slice ab D.length D.length),(8,ptrTo B8 0),(7,.int .i64 0),(6,.slice none 0 0),(2,.slice a C.length cap)] Le∧HoldG S [S1,S] S' [(B8,.cells u.cells 103 false true []),(B3,.cells [.int .i64 p,.int .i64 q,.int .i64 r,.int .i64 t] 51 false true [])] [gS av O]) ?_ (m:=D.length) ⟨0,none,[],by omega,by omega,rfl,fun x hx=>(List.not_mem_nil hx).elim,⟨rfl,rfl,rfl,rfl,rfl,rfl,rfl,trivial⟩,hl⟩
 clear hl;rintro m Le S' ⟨i,av,O,hi,rfl,hO,hok,hsub,hl⟩;refine xe_sub hsub ?_
 have hB:=hB.move (hl.since 0 rfl)
 refine zg ?_
 constructor<;>intro h40
 ·
  have hlt:i+1<D.length:=by have:=of_decide_eq_true h40;omega
  obtain⟨x,hx⟩:=nth_some (show i<D.length by omega)
  obtain⟨y,hy⟩:=nth_some hlt
  have hxb:=hD.b x (nth_mem hx)
  have hyb:=hD.b y (nth_mem hy)
  have hxy:x.t≤y.f:=by
   have h:=hD.p
   rw[List.pairwise_iff_getElem]at h
   rw[nth_eq]at hx hy
   obtain⟨h1,e1⟩:=List.getElem?_eq_some_iff.1 hx
   obtain⟨h2,e2⟩:=List.getElem?_eq_some_iff.1 hy
   have:=h i (i+1) h1 h2 (by omega)
   rw[e1,e2]at this
   exact this
  have hl:=hl.mark
  refine zg ?_;refine xp_draw (idx:=[0,1,2,3,4,5,6,7,8,9,10,11,12,13,14,15,17,18,19,20,21,22,24,25,26,27,28,30,16,23,29,31]) rfl (by kernel_rfl) (by kernel_rfl) ?_
  obtain⟨b1,o1,cs1,ha,_,hrow,htk,htk2⟩:=hB.elem2 hx hy
  refine zg ?_;refine rp_allocL hF hl rfl rfl rfl rfl rfl (z:=[.int .i64 0,.int .i64 0,.int .i64 0,.int .i64 0,.bool false,.int .i64 0,.int .i64 0]) (by kernel_rfl) ?_;intro B13 S13 hl
  refine zp hl rfl (spec230 a cap C x hn (hl.keep.3 hF) (by omega) (hv.move (hl.since 2 rfl))) ?_;rintro v S3 hk1 ⟨r1,rfl,hr1,hr1b⟩ hl;refine⟨zt,?_⟩
  refine zp hl rfl (spec230 a cap C y hn (hl.keep.3 hF) (by omega) (hv.move (hl.since 2 rfl))) ?_;rintro v S4 hk2 ⟨r2,rfl,hr2,hr2b⟩ hl;refine⟨zt,?_⟩
  obtain⟨s,hs⟩:∃s:Se,s=⟨x.t,y.f,r1,r2,((i:Int)+2==(D.length:Int)),⟨0,0⟩⟩:=⟨_,rfl⟩
  have hsc:[Value.int .i64 x.t,.int .i64 y.f,.int .i64 r1,.int .i64 r2,.bool ((i:Int)+2==(D.length:Int)),.int .i64 0,.int .i64 0]=s.cells:=by rw[hs];rfl
  have hso:SeOk C.length s:=by rw[hs];exact⟨by show 0≤x.t;omega,⟨hxy,by show y.f≤_;omega⟩,⟨hr1,hr1b⟩,hr2,hr2b⟩
  refine pr rfl (rd_build rfl rfl (v:=aggL s.cells) (by rw[←hsc];rfl)) ?_
  refine rp_storeL hl 0 rfl rfl rfl rfl rfl rfl rfl (by kernel_rfl) (c':=s.cells) rfl ?_;intro S5 hl;refine⟨zt,?_⟩
  clear ha hrow htk htk2
  refine zg ?_
  refine zc hl rfl (spec231 u a cap C s hn (hl.keep.3 hF) hso (hv.move (hl.since 2 rfl))) ?_;rintro v S6 hk3 ⟨t2,e,rfl,he⟩ hl
  refine zg ?_;refine re_allocL hl rfl rfl rfl rfl rfl (z:=[.int .i64 0,.int .i64 0]) (by kernel_rfl) ?_
  intro B14 S14 hl
  refine re_storeL hl 0 rfl rfl rfl rfl rfl rfl rfl (by kernel_rfl) (c':=t2.cells) rfl ?_
  intro S7 hl
  refine zg ?_
  constructor<;>intro h81
  ·
   have e0:e≠0:=by simpa using h81
   refine zg ?_
   exact thn_ret (blk_ret (thn_ret (round_ret (blk_ret ((z2 rfl rfl ⟨hl.keep,.inl ⟨e,e0,rfl⟩⟩))))))
  refine xp_skip rfl ?_;refine xp_seq rfl ?_;refine xp_seq rfl (xe_toW hl 90 Value.bool ?_ rfl ?_)
  ·
   refine zg ?_;refine rr rfl (rd_un rfl rfl rfl) ?_;refine zg ?_;refine re_bool (d:=86) rfl (fun h86=>?_) (fun h86=>?_)
   ·
    refine zg ?_
    exact⟨rfl,⟨_,bl rfl⟩,sB,hl⟩
   refine zg ?_
   exact⟨rfl,⟨_,bl rfl⟩,sB,hl⟩
  intro q90 S8 hl
  refine zg ?_
  constructor<;>intro h90
  ·
   refine zg ?_
   exact thn_ret (blk_ret (thn_ret (round_ret (blk_ret ((z2 rfl rfl ⟨hl.keep,.inl ⟨14,by decide,rfl⟩⟩))))))
  have hso2:SeOk C.length {s with ct:=t2}:=⟨hso.f,hso.t,hso.l,hso.r⟩
  obtain⟨w,hw⟩:∃w:Se,w= {s with ct:=t2}:=⟨_,rfl⟩
  rw[←hw]at hso2
  refine zg ?_;refine re_storeL hl 1 rfl rfl rfl rfl rfl rfl rfl (by kernel_rfl) (c':=w.cells) (by rw[hw];rfl) ?_
  intro S9 hl
  refine zg ?_;refine re_buildSliceR hl rfl rfl rfl rfl rfl Tryz.underlying268 rfl (c:=w.cells) (by kernel_rfl) ?_;intro B95 S10 hr95 hl;refine re_appendG hl 0 rfl rfl (by simp) rfl rfl rfl rfl rfl rfl rfl Tryz.underlying268 Tryz.underlying268 rfl rfl (by kernel_rfl) (src_row_ (n:=1) (cap:=1) (new:=w.cells) hr95 rfl) rfl rfl (by kernel_rfl) (by show O.length+1≤maxNeed;unfold maxNeed;omega) ?_;intro v96 S11 hl
  obtain⟨av2,rfl⟩:∃x,v96= .slice x (O.length+1) (O.length+1):=Grow.is_ (hl.gr _ (List.mem_cons_self ..))
  refine zg ?_
  refine⟨D.length-(i+1),by omega,i+1,av2,O++[w],by omega,rfl,by rw[len_push,hO],fun x hx=>?_,⟨rfl,by rw[len_push];rfl,rfl,rfl,rfl,rfl,rfl,trivial⟩,gS_ok (hl.tail.tail.marks (Us:=[S1,S]) (fun T hT=>List.mem_cons_of_mem _ hT))⟩
  rcases List.mem_append.1 hx with h|h
  ·exact hok x h
  rw[List.mem_singleton.1 h]
  exact hso2
 refine zg ?_
 exact y2 rfl rfl ⟨hl.keep,.inr ⟨av,O,rfl,Grow.ls (f:=Se.cells) (fun _=>rfl) (hl.gr _ (List.mem_cons_self ..)),by omega,hok⟩⟩
end Go.Proofs.YtmfphenhpkgidaaGreatDoor
namespace Go.Proofs.YtmfphenhpkgidaaGreatDoor
open Go.Cm Go
set_option maxRecDepth 100000
variable{S:St}
def BgnR(S S':St)(n:Nat)(v:Value):Prop:=(Keep S S'∧∃e:Int,e≠0∧v=tupV [.pointer none,.int .i64 e])∨∃Sm B x,v=tupV [ptrTo B 0,.int .i64 0]∧Keep S Sm∧x.Fit∧x.L.length=n∧x.M= []∧x.Old Sm∧StH Sm S' B x
noncomputable def cd232:Code:=Tryz.f232.body.getD .skip
set_option maxHeartbeats 4000000 in
theorem spec232(p q r t k:Int)(a:Option Addr)(cap:Nat)(C:List It)(hk: -50≤k∧k≤50)(hn:C.length≤1000)(hF:Fresh S)(hv:Its S (.slice a C.length cap) C):CC Tryz.prog KK 232 [mV4 p q r t,.int .i64 k,.slice a C.length cap] S (fun v S'=>Keep S S'∧(BgnR S S' C.length v)):=by
 refine cc_enter (c:=cd232) (n:=37) Tryz.func232 rfl rfl rfl (by kernel_rfl) rfl rfl ?_
 have hl:=Hold.start S
 refine zg ?_;refine re_boxL hl rfl rfl rfl rfl rfl rfl ?_
 intro B3 S3 hl
 refine zg ?_
 refine zc hl rfl (spec184 p q r t k a cap C hk hn (hl.keep.3 hF) (hv.move (hl.since 0 rfl))) ?_;rintro v S1 hk1 hR hl
 rcases hR with ⟨e,he,rfl⟩|⟨ag,G,rfl,hG,hGn,hGo⟩
 ·
  refine zg ?_
  constructor<;>intro h20
  ·
   refine zg ?_
   exact(z2 rfl rfl ⟨hl.keep,.inl ⟨hl.keep,e,he,rfl⟩⟩)
  exact absurd (by simpa using h20) he
 have hl:=hl.mark
 refine zg ?_
 refine zc hl rfl (spec227 p q r t k hk) ?_;rintro v S4 hk2 ⟨u,e,rfl⟩ hl
 have hkm:=hl.keep
 have hFm:=hl.keep.3 hF
 have hG:=hG.move (hl.since 0 rfl)
 have hv4:=hv.move (hl.since 1 rfl)
 clear hl
 have hl:=Hold.start S4
 refine zg ?_;refine re_allocL hl rfl rfl rfl rfl rfl (z:=[.int .i64 0,.int .i64 0]) (by kernel_rfl) ?_
 intro B10 S10 hl
 refine re_storeL hl 0 rfl rfl rfl rfl rfl rfl rfl (by kernel_rfl) (c':=u.cells) rfl ?_
 intro S5 hl
 refine zg ?_;refine xp_draw (idx:=[0,1,2,3,4,6,5,7,8,9,10]) rfl (by kernel_rfl) (by kernel_rfl) ?_;refine zg ?_;refine rp_buildSliceB hFm hl rfl rfl rfl rfl rfl Tryz.underlying208 rfl (c:=[]) (by kernel_rfl) ?_;intro B31 S6 hl
 have hO:OwI (.slice (some ⟨B31,0,none⟩) 0 0) [] [(B31,.cells [] 266 true true [])]:= .inr ⟨B31,[],rfl,rfl,rfl⟩
 have hl:HoldG S4 [S4] S6 ([]++([(B31,.cells [] 266 true true [])]++[(B10,.cells u.cells 103 false true [])])) []:=hl
 refine zg ?_;refine rp_appendX2 hl hO rfl rfl rfl rfl rfl rfl rfl Tryz.underlying208 Tryz.underlying208 rfl rfl (by kernel_rfl) (hv4.move (hl.since 0 rfl)).cells (flat_len (f:=It.cells) (z:=12) (fun _=>rfl) _) (flatCells (f:=It.cells) (fun _=>rfl) _) (by kernel_rfl) (by show 0+C.length≤maxNeed;unfold maxNeed;omega) ?_;intro v33 fr S7 hO2 hl
 have hl:HoldG S4 [S4] S7 ([(B10,.cells u.cells 103 false true [])]++(fr++[])) []:=hl.perm (by rw[List.nil_append,List.append_nil];exact List.perm_append_comm)
 refine⟨zt,?_⟩
 obtain⟨an,rfl⟩:=hO2.is
 have e0:([]:List It).length+C.length=C.length:=Nat.zero_add _
 rw[e0]at hO2 ⊢
 have hO2:OwI (.slice an C.length C.length) C fr:=hO2
 obtain⟨x,hx⟩:∃x:Sta,x=⟨u,k,a,cap,C,an,C,ag,G.length,G,none,[]⟩:=⟨_,rfl⟩
 have hxc:[Value.int .i64 u.n,Value.int .i64 u.d,.int .i64 k,.slice a C.length cap,.slice an C.length C.length,.slice ag G.length G.length,.slice none 0 0]=x.cells:=by rw[hx];rfl
 refine pr rfl (rd_build rfl rfl (v:=aggL x.cells) (by rw[←hxc];rfl)) ?_;refine rp_boxL hFm hl rfl rfl rfl rfl rfl rfl ?_;intro B36 S8 hl;refine zg ?_
 have hl:HoldG S4 [S4] S8 ([(B36,x.blk)]++(fr++([]++[]))) []:=hl.sub (List.Sublist.cons_cons _ (List.sublist_cons_self ..))
 exact y2 rfl rfl ⟨hkm.trans hl.keep,.inr ⟨S4,B36,x,rfl,hkm,by rw[hx];exact⟨hk,rfl,hn,by show G.length≤2001;omega,hGo⟩,by rw[hx],by rw[hx],by rw[hx];exact⟨hv4,hG⟩,fr,[],by rw[hx];exact hO2,by rw[hx];exact .inl ⟨rfl,rfl,rfl,rfl⟩,hl⟩⟩
end Go.Proofs.YtmfphenhpkgidaaGreatDoor
namespace Go.Proofs.YtmfphenhpkgidaaGreatDoor
open Go.Cm Go
set_option maxRecDepth 100000
variable{S:St}
theorem st_time{Sb S:St}{b i o n:Nat}{N:List It}{q fr l:List (Nat×Blk)}{x y:It}{v:Ti}(hO:OwI (.slice (some ⟨b,0,none⟩) n n) N fr)(hL:N.length=n)(hx:nth N i=some x)(hs:setN o v.cells x.cells=some y.cells)(hl:HoldG Sb [Sb] S (q++(fr++l)) []) :
  ∃S' fr',storeV Tryz.prog 103 (ptrTo b (0+i*12+o)) v.v S=some S'∧OwI (.slice (some ⟨b,0,none⟩) n n) (N.set i y) fr'∧HoldG Sb [Sb] S' (q++(fr'++l)) []:=hO.set hL hx hs hl
theorem nth_set'{α:Type}{l:List α}{i:Nat}{x y:α}(h:nth l i=some x):nth (l.set i y) i=some y:=by rw[nth_eq,List.getElem?_set_self (nth_lt h)]
theorem OW.ne{a:Option Addr}{e:TypeId}{z m:Nat}{c:List Value}{fr:List (Nat×Blk)}(h:OW (.slice a m m) e z c m fr)(hm:0<m):∃b,a=some ⟨b,0,none⟩:=by
 rcases h with ⟨_,_,h,_⟩|⟨b,dd,h,_,_⟩
 ·omega
 cases h
 exact⟨b,rfl⟩
theorem OwI.ld{b n i:Nat}{L:List It}{fr l:List (Nat×Blk)}{Sb S:St}{Ts:List St}{gs:List Gr}{x:It}(hO:OwI (.slice (some ⟨b,0,none⟩) n n) L fr)(hL:L.length=n)(hx:nth L i=some x)(hl:HoldG Sb Ts S l gs)(hm:∀p,p∈fr→p∈l):∃cs,RowAt S b 266 cs∧takeN 12 (dropN (0+i*12) cs)=some x.cells:=by
 subst hL
 obtain⟨b1,o1,cs1,ha,_,hrow,htk⟩:=(OW.at_ (f:=It.cells) (fun _=>rfl) hO hl hm).elem hx
 cases ha
 exact⟨_,hrow,htk⟩
def ChsR(Sb S':St)(B:Nat)(x:Sta)(v:Value):Prop:= ∃(R:Bool) (y:Sta),v= .bool R∧StH Sb S' B y∧y.Fit∧y.Old Sb∧y.L=x.L∧y.G=x.G∧y.M.length=x.M.length+bif R then 1 else 0
noncomputable def cd233:Code:=Tryz.f233.body.getD .skip
set_option maxHeartbeats 8000000 in
theorem spec233{Sb:St}(B:Nat)(x:Sta)(c:Int)(hm:x.M.length<x.G.length)(hF:Fresh Sb)(hx:x.Fit)(ho:x.Old Sb)(hst:StH Sb S B x):CC Tryz.prog KK 233 [ptrTo B 0,.int .i64 c] S (fun v S'=>ChsR Sb S' B x v):=by
 refine cc_enter (c:=cd233) (n:=163) Tryz.func233 rfl rfl rfl (by kernel_rfl) rfl rfl ?_
 have hok:=hst.ok ho
 have hat:=hst.at_
 obtain⟨fN,fM,hN,hM,hl⟩:=hst
 obtain⟨s,hs⟩:=nth_some hm
 have hso:=hx.s s (nth_mem hs)
 have hll:=hx.l
 have hgl:=hx.g
 have hnl:=hx.n
 refine zg ?_
 refine zc hl rfl (spec234 B x hm (hl.keep.3 hF) hat hx hok) ?_;rintro v S1 hk1 ⟨av,D,rfl,hD,hDl,hDa⟩ hl
 have hDa:=hDa s hs
 refine zg ?_;refine xe_sub (L':=[(7,.int .i64 0),(6,.bool false),(5,.slice av D.length D.length),(4,.bool false),(0,ptrTo B 0),(1,.int .i64 c)]) ⟨rfl,rfl,rfl,rfl,rfl,rfl,trivial⟩ ?_
 refine xp_loop rfl (fun m Le S'=>∃(i:Nat) (Q:Bool),i≤D.length∧m=D.length-i∧S'=S1∧(Q=true→c∈D)∧SubE [(7,.int .i64 (i:Int)),(6,.bool Q),(5,.slice av D.length D.length),(4,.bool false),(0,ptrTo B 0),(1,.int .i64 c)] Le) ?_ (m:=D.length) ⟨0,false,by omega,by omega,rfl,nofun,⟨rfl,rfl,rfl,rfl,rfl,rfl,trivial⟩⟩
 rintro m Le S' ⟨i,Q,hi,rfl,rfl,hQ,hsub⟩;refine xe_sub hsub ?_
 refine zg ?_
 constructor<;>intro h17
 ·
  have hlt:i<D.length:=by have:=of_decide_eq_true h17;omega
  obtain⟨y,hy⟩:=nth_some hlt
  obtain⟨b1,o1,cs1,ha,_,hrow,htk⟩:=hD.elem hy
  refine zg ?_;refine re_bool (d:=21) rfl (fun h21=>?_) (fun h21=>?_)
  ·
   refine zg ?_
   exact⟨D.length-(i+1),by omega,i+1,true,by omega,rfl,rfl,fun _=>hQ h21,⟨rfl,rfl,rfl,rfl,rfl,rfl,trivial⟩⟩
  refine zg ?_
  exact⟨D.length-(i+1),by omega,i+1,_,by omega,rfl,rfl,fun h=>by rw[←eq_of_beq h];exact nth_mem hy,⟨rfl,rfl,rfl,rfl,rfl,rfl,trivial⟩⟩
 clear hi hsub
 refine zg ?_;refine rr rfl (rd_un rfl rfl rfl) ?_;refine zg ?_
 constructor<;>intro h30
 ·
  refine zg ?_
  exact(z1 rfl ⟨false,x,rfl,⟨fN,fM,hN,hM,hl⟩,hx,ho,rfl,rfl,rfl⟩)
 have hc:=hDa c (hQ (by simpa using h30))
 obtain⟨b1,o1,cs1,ha,_,hrow,htk⟩:=(ho.g.move (hl.since 0 rfl)).elem hs
 refine zg ?_;refine xp_draw (idx:=[0,1,2,3,4,5,6,7,8,9,10,11,12]) rfl (by kernel_rfl) (by kernel_rfl) ?_;refine zg ?_;refine rp_allocL hF hl rfl rfl rfl rfl rfl (z:=[.int .i64 0,.int .i64 0,.int .i64 0,.int .i64 0,.bool false,.int .i64 0,.int .i64 0]) (by kernel_rfl) ?_;intro B8 S8 hl
 refine rp_storeL hl 0 rfl rfl rfl rfl rfl rfl rfl (by kernel_rfl) (c':=s.cells) rfl ?_;intro S9 hl;refine⟨zt,?_⟩
 clear ha hrow htk
 have hl:HoldG Sb [Sb] S9 ([(B8,.cells s.cells 328 false true []),(B,x.blk)]++(fN++(fM++[]))) []:=hl
 obtain⟨N,hNl,hN⟩:∃N:List It,N.length=x.N.length∧OwI (.slice x.an x.N.length x.N.length) N fN:=⟨x.N,rfl,hN⟩
 refine zA ?_;refine xp_seq rfl (xe_cut (fun Le S'=>∃(N:List It) (fN:List (Nat×Blk)),N.length=x.N.length∧SubE [(8,ptrTo B8 0),(4,.bool false),(0,ptrTo B 0),(1,.int .i64 c)] Le∧OwI (.slice x.an x.N.length x.N.length) N fN∧HoldG Sb [Sb] S' ([(B8,.cells s.cells 328 false true []),(B,x.blk)]++(fN++(fM++[]))) []) ?_ ?_)
 ·
  refine xp_seq rfl (xe_toI 47 (fun v S'=>∃Q:Bool,v= .bool Q∧(Q=true→c=1∨c=3)∧HoldG Sb [Sb] S' ([(B8,.cells s.cells 328 false true []),(B,x.blk)]++(fN++(fM++[]))) []) ?_ ?_)
  ·
   refine zg ?_;refine re_bool (d:=44) rfl (fun h44=>?_) (fun h44=>?_)
   ·
    refine zg ?_
    exact⟨rfl,_,bl rfl,sB,true,rfl,fun _=> .inl (eq_of_beq h44),hl⟩
   refine zg ?_
   exact⟨rfl,_,bl rfl,sB,_,rfl,fun h=> .inr (eq_of_beq h),hl⟩
  rintro v S2 ⟨Q2,rfl,hQ2,hl⟩
  refine zg ?_
  constructor<;>intro h47
  ·
   have h0:=hc.1 (hQ2 h47)
   have hsl:=hso.l.2
   have hjN:(s.l).toNat<N.length:=by omega
   have hjN0:0<N.length:=by omega
   obtain⟨bN,hbN⟩:∃b,x.an=some ⟨b,0,none⟩:=by have h:=hN;rw[←hNl]at h;exact OW.ne h hjN0
   rw[hbN]at hN
   obtain⟨y,hy⟩:=nth_some hjN
   obtain⟨cs,hrow,htk⟩:=OwI.ld hN hNl hy hl mem_mid
   refine zg ?_;refine xp_draw (idx:=[0,1,2,3,4,5,6,7]) rfl (by kernel_rfl) (by kernel_rfl) ?_;refine zg ?_;refine xp_draw (idx:=[0,1,2,3,4,5,6,7,8,9,10,11,12,13,14,15]) rfl (by kernel_rfl) (by kernel_rfl) ?_;refine zg ?_
   refine zp hl rfl (spec280 y.du x.u) ?_;rintro v S3 hk3 ⟨t2,e,rfl,he⟩ hl;refine⟨zt,?_⟩
   refine zg ?_
   obtain⟨S4,fN2,hs1,hN2,hl2⟩:=st_time hN hNl hy (o:=6) (v:=t2) (y:={y with du:=t2}) rfl hl
   refine rp_store rfl rfl rfl rfl rfl rfl hs1 zt ?_
   clear hrow htk hl hs1 hN he
   have hy:=nth_set' (y:={y with du:=t2}) hy
   have hNl:(N.set s.l.toNat {y with du:=t2}).length=x.N.length:=List.length_set.trans hNl
   generalize ({y with du:=t2}:It)=y at hy hN2 hNl
   generalize N.set s.l.toNat y=N at hy hN2 hNl
   have hN:=hN2
   have hl:=hl2
   obtain⟨cs,hrow,htk⟩:=OwI.ld hN hNl hy hl mem_mid
   clear hN2 hl2
   refine zg ?_;refine xp_draw (idx:=[0,1,2,3,4,5,6,7,8,9,10,11,12,13,14,15]) rfl (by kernel_rfl) (by kernel_rfl) ?_;refine zg ?_
   refine zp hl rfl (spec277 y.af x.u) ?_;rintro v S3 hk3 ⟨t2,e,rfl,he⟩ hl;refine⟨zt,?_⟩
   refine zg ?_
   obtain⟨S4,fN2,hs1,hN2,hl2⟩:=st_time hN hNl hy (o:=10) (v:=t2) (y:={y with af:=t2}) rfl hl
   refine rp_store rfl rfl rfl rfl rfl rfl hs1 zt ?_
   clear hrow htk hl hs1 hN he
   have hy:=nth_set' (y:={y with af:=t2}) hy
   have hNl:(N.set s.l.toNat {y with af:=t2}).length=x.N.length:=List.length_set.trans hNl
   generalize ({y with af:=t2}:It)=y at hy hN2 hNl
   generalize N.set s.l.toNat y=N at hy hN2 hNl
   have hN:=hN2
   have hl:=hl2
   obtain⟨cs,hrow,htk⟩:=OwI.ld hN hNl hy hl mem_mid
   clear hN2 hl2
   refine zg ?_
   exact⟨rfl,N,_,hNl,⟨rfl,rfl,rfl,rfl,trivial⟩,by rw[hbN];exact hN,hl⟩
  refine xp_skip rfl ?_
  exact⟨rfl,N,fN,hNl,⟨rfl,rfl,rfl,rfl,trivial⟩,hN,hl⟩
 clear hl hN hNl
 rintro Le S2 ⟨N,fN,hNl,hsub,hN,hl⟩;refine xe_sub hsub ?_;clear hsub
 refine xp_seq rfl (xe_cut (fun Le S'=>∃(N:List It) (fN:List (Nat×Blk)),N.length=x.N.length∧SubE [(8,ptrTo B8 0),(4,.bool false),(0,ptrTo B 0),(1,.int .i64 c)] Le∧OwI (.slice x.an x.N.length x.N.length) N fN∧HoldG Sb [Sb] S' ([(B8,.cells s.cells 328 false true []),(B,x.blk)]++(fN++(fM++[]))) []) ?_ ?_)
 ·
  refine xp_seq rfl (xe_toI 90 (fun v S'=>∃Q:Bool,v= .bool Q∧(Q=true→c=2∨c=3)∧HoldG Sb [Sb] S' ([(B8,.cells s.cells 328 false true []),(B,x.blk)]++(fN++(fM++[]))) []) ?_ ?_)
  ·
   refine zg ?_;refine re_bool (d:=87) rfl (fun h44=>?_) (fun h44=>?_)
   ·
    refine zg ?_
    exact⟨rfl,_,bl rfl,sB,true,rfl,fun _=> .inl (eq_of_beq h44),hl⟩
   refine zg ?_
   exact⟨rfl,_,bl rfl,sB,_,rfl,fun h=> .inr (eq_of_beq h),hl⟩
  rintro v S2 ⟨Q2,rfl,hQ2,hl⟩
  refine zg ?_
  constructor<;>intro h47
  ·
   have h0:=hc.2.1 (hQ2 h47)
   have hsl:=hso.r.2
   have hjN:(s.r).toNat<N.length:=by omega
   have hjN0:0<N.length:=by omega
   obtain⟨bN,hbN⟩:∃b,x.an=some ⟨b,0,none⟩:=by have h:=hN;rw[←hNl]at h;exact OW.ne h hjN0
   rw[hbN]at hN
   obtain⟨y,hy⟩:=nth_some hjN
   obtain⟨cs,hrow,htk⟩:=OwI.ld hN hNl hy hl mem_mid
   refine zg ?_;refine xp_draw (idx:=[0,1,2,3,4,5,6,7]) rfl (by kernel_rfl) (by kernel_rfl) ?_;refine zg ?_;refine xp_draw (idx:=[0,1,2,3,4,5,6,7,8,9,10,11,12,13,14,15]) rfl (by kernel_rfl) (by kernel_rfl) ?_;refine zg ?_
   refine zp hl rfl (spec280 y.du x.u) ?_;rintro v S3 hk3 ⟨t2,e,rfl,he⟩ hl;refine⟨zt,?_⟩
   refine zg ?_
   obtain⟨S4,fN2,hs1,hN2,hl2⟩:=st_time hN hNl hy (o:=6) (v:=t2) (y:={y with du:=t2}) rfl hl
   refine rp_store rfl rfl rfl rfl rfl rfl hs1 zt ?_
   clear hrow htk hl hs1 hN he
   have hy:=nth_set' (y:={y with du:=t2}) hy
   have hNl:(N.set s.r.toNat {y with du:=t2}).length=x.N.length:=List.length_set.trans hNl
   generalize ({y with du:=t2}:It)=y at hy hN2 hNl
   generalize N.set s.r.toNat y=N at hy hN2 hNl
   have hN:=hN2
   have hl:=hl2
   obtain⟨cs,hrow,htk⟩:=OwI.ld hN hNl hy hl mem_mid
   clear hN2 hl2
   refine zg ?_;refine xp_draw (idx:=[0,1,2,3,4,5,6,7,8,9,10,11,12,13,14,15]) rfl (by kernel_rfl) (by kernel_rfl) ?_;refine zg ?_
   refine zp hl rfl (spec277 y.be x.u) ?_;rintro v S3 hk3 ⟨t2,e,rfl,he⟩ hl;refine⟨zt,?_⟩
   refine zg ?_
   obtain⟨S4,fN2,hs1,hN2,hl2⟩:=st_time hN hNl hy (o:=8) (v:=t2) (y:={y with be:=t2}) rfl hl
   refine rp_store rfl rfl rfl rfl rfl rfl hs1 zt ?_
   clear hrow htk hl hs1 hN he
   have hy:=nth_set' (y:={y with be:=t2}) hy
   have hNl:(N.set s.r.toNat {y with be:=t2}).length=x.N.length:=List.length_set.trans hNl
   generalize ({y with be:=t2}:It)=y at hy hN2 hNl
   generalize N.set s.r.toNat y=N at hy hN2 hNl
   have hN:=hN2
   have hl:=hl2
   obtain⟨cs,hrow,htk⟩:=OwI.ld hN hNl hy hl mem_mid
   clear hN2 hl2
   refine zg ?_
   exact⟨rfl,N,_,hNl,⟨rfl,rfl,rfl,rfl,trivial⟩,by rw[hbN];exact hN,hl⟩
  refine xp_skip rfl ?_
  exact⟨rfl,N,fN,hNl,⟨rfl,rfl,rfl,rfl,trivial⟩,hN,hl⟩
 clear hl hN hNl
 rintro Le S2 ⟨N,fN,hNl,hsub,hN,hl⟩;refine xe_sub hsub ?_;clear hsub
 refine xp_seq rfl (xe_cut (fun Le S'=>∃(N:List It) (fN:List (Nat×Blk)),N.length=x.N.length∧SubE [(8,ptrTo B8 0),(4,.bool false),(0,ptrTo B 0),(1,.int .i64 c)] Le∧OwI (.slice x.an x.N.length x.N.length) N fN∧HoldG Sb [Sb] S' ([(B8,.cells s.cells 328 false true []),(B,x.blk)]++(fN++(fM++[]))) []) ?_ ?_)
 ·
  refine zg ?_
  constructor<;>intro h129
  ·
   have h0:=hc.2.2 (eq_of_beq h129)
   have hsf:=hso.f
   have hsl:=hso.t
   have hjN:(s.t-1).toNat<N.length:=by omega
   have hjN0:0<N.length:=by omega
   obtain⟨bN,hbN⟩:∃b,x.an=some ⟨b,0,none⟩:=by have h:=hN;rw[←hNl]at h;exact OW.ne h hjN0
   rw[hbN]at hN
   obtain⟨y,hy⟩:=nth_some hjN
   obtain⟨cs,hrow,htk⟩:=OwI.ld hN hNl hy hl mem_mid
   refine zg ?_;refine xp_draw (idx:=[0,1,2,3,4,5,6,7,8]) rfl (by kernel_rfl) (by kernel_rfl) ?_;refine zg ?_;refine xp_draw (idx:=[0,1,2,3,4,5,6,7,8,9,10,11,12,13,14,15]) rfl (by kernel_rfl) (by kernel_rfl) ?_;refine zg ?_
   refine zp hl rfl (spec277 y.du y.du) ?_;rintro v S3 hk3 ⟨t2,e,rfl,he⟩ hl;refine⟨zt,?_⟩
   refine zg ?_
   obtain⟨S4,fN2,hs1,hN2,hl2⟩:=st_time hN hNl hy (o:=6) (v:=t2) (y:={y with du:=t2}) rfl hl
   refine rp_store rfl rfl rfl rfl rfl rfl hs1 zt ?_
   clear hrow htk hl hs1 hN he
   have hy:=nth_set' (y:={y with du:=t2}) hy
   have hNl:(N.set (s.t-1).toNat {y with du:=t2}).length=x.N.length:=List.length_set.trans hNl
   generalize ({y with du:=t2}:It)=y at hy hN2 hNl
   generalize N.set (s.t-1).toNat y=N at hy hN2 hNl
   have hN:=hN2
   have hl:=hl2
   obtain⟨cs,hrow,htk⟩:=OwI.ld hN hNl hy hl mem_mid
   clear hN2 hl2
   refine zg ?_
   exact⟨rfl,N,_,hNl,⟨rfl,rfl,rfl,rfl,trivial⟩,by rw[hbN];exact hN,hl⟩
  refine zg ?_
  exact⟨rfl,N,fN,hNl,⟨rfl,rfl,rfl,rfl,trivial⟩,hN,hl⟩
 clear hl hN hNl
 rintro Le S2 ⟨N,fN,hNl,hsub,hN,hl⟩;refine xe_sub hsub ?_;clear hsub
 refine zg ?_;refine re_buildSliceR hl rfl rfl rfl rfl rfl Tryz.underlying38 rfl (c:=ic c) (by kernel_rfl) ?_;intro B159 S4 hr159 hl
 have hl:HoldG Sb [Sb] S4 (([(B8,.cells s.cells 328 false true []),(B,x.blk)]++fN)++(fM++[])) []:=hl.perm (.of_eq (List.append_assoc ..).symm)
 refine re_appendW hl hM rfl rfl rfl rfl rfl rfl rfl Tryz.underlying38 Tryz.underlying38 rfl rfl (by decide) (by kernel_rfl) (src_row_ (n:=1) (cap:=1) (new:=ic c) hr159 rfl) rfl rfl (by kernel_rfl) (by show x.M.length+1≤maxNeed;unfold maxNeed;omega) ?_;intro v160 fM2 S5 hM2 hl
 obtain⟨am2,rfl⟩:=hM2.is
 have hl:HoldG Sb [Sb] S5 ([(B8,.cells s.cells 328 false true []),(B,x.blk)]++(fN++(fM2++[]))) []:=hl.perm (.of_eq (List.append_assoc ..))
 have hM2:OwN (.slice am2 (x.M++[c]).length (x.M++[c]).length) (x.M++[c]) fM2:=OW.push (f:=ic) hM2
 have hlp:(x.M++[c]).length=x.M.length+1:=len_push _ _
 rw[←hlp]
 obtain⟨y,hy⟩:∃y:Sta,y= {x with N:=N,am:=am2,M:=x.M++[c]}:=⟨_,rfl⟩
 refine zg ?_;refine re_storeL hl 1 rfl rfl rfl rfl rfl rfl rfl (by kernel_rfl) (c':=y.cells) (by rw[hy];unfold Sta.cells;simp only[hNl];rfl) ?_
 intro S6 hl
 refine zg ?_
 have hl:HoldG Sb [Sb] S6 ((B8,.cells s.cells 328 false true [])::([(B,y.blk)]++(fN++(fM2++[])))) []:=hl
 exact y1 rfl ⟨true,y,rfl,⟨fN,fM2,by rw[hy];show OwI (.slice x.an N.length N.length) N fN;rw[hNl];exact hN,by rw[hy];exact hM2,hl.tail⟩,by rw[hy];exact⟨hx.k,hNl.trans hx.n,hx.l,hx.g,hx.s⟩,by rw[hy];exact⟨ho.l,ho.g⟩,by rw[hy],by rw[hy],by rw[hy];exact hlp⟩
end Go.Proofs.YtmfphenhpkgidaaGreatDoor
namespace Go.Proofs.YtmfphenhpkgidaaGreatDoor
open Go.Cm Go
set_option maxRecDepth 100000
variable{S:St}
def bc(x:Bool):List Value:=[.bool x]
abbrev Bools:=LsOf 4 1 bc
abbrev OwB(v:Value)(C:List Bool)(fr:List (Nat×Blk)):Prop:=OW v 4 1 ((C.map bc).flatten) C.length fr
theorem done3{P:Program}{n:Nat}{K:Known}{ro:Option Nat}{L:Env}{S:St}{R:Value→St→Prop}{x y z:Tmp}{u v w:Value}{c:Code}(h:Go.Cm.look L x=some u)(k:Go.Cm.look L y=some v)(l:Go.Cm.look L z=some w)(q:R (tupV [u,v,w]) S):Thn P K n ro c (Done P [.tmp x,.tmp y,.tmp z] R) .ret L S :=
 thn_ret (done_ret (ress_tmp h (ress_tmp k (ress_tmp l rfl))) q)
def MrkR(S':St)(p q r t:Int)(C:List Sg)(v:Value):Prop:=(∃e:Int,e≠0∧v=tupV [.slice none 0 0,.slice none 0 0,.int .i64 e])∨(ChkOk p q r t C∧∃a1 K a2 W,v=tupV [.slice a1 K.length K.length,.slice a2 W.length W.length,.int .i64 0]∧Nums S' (.slice a1 K.length K.length) K∧Bools S' (.slice a2 W.length W.length) W∧K.length=ndF C C.length∧W.length=ndF C C.length)
theorem num_push{a:Option Addr}{C:List Int}{x:Int}{fr:List (Nat×Blk)}(h:OW (.slice a (C.length+1) (C.length+1)) 3 1 ((C.map ic).flatten++ic x) (C.length+1) fr):OwN (.slice a (C++[x]).length (C++[x]).length) (C++[x]) fr:=OW.push h
theorem bool_push{a:Option Addr}{C:List Bool}{x:Bool}{fr:List (Nat×Blk)}(h:OW (.slice a (C.length+1) (C.length+1)) 4 1 ((C.map bc).flatten++bc x) (C.length+1) fr):OwB (.slice a (C++[x]).length (C++[x]).length) (C++[x]) fr:=OW.push h
noncomputable def cd181:Code:=Tryz.f181.body.getD .skip
set_option maxHeartbeats 4000000 in
theorem spec181(p q r t:Int)(a:Option Addr)(cap:Nat)(C:List Sg)(ap:Option Addr)(cp:Nat)(P:List Int)(hn:C.length≤1000)(hp:P.length≤1000)(hF:Fresh S)(hv:Sgs S (.slice a C.length cap) C)(hP:Nums S (.slice ap P.length cp) P):CC Tryz.prog KK 181 [mV4 p q r t,.slice a C.length cap,.slice ap P.length cp] S (fun v S'=>Keep S S'∧(MrkR S' p q r t C v)):=by
 refine cc_enter (c:=cd181) (n:=87) Tryz.func181 rfl rfl rfl (by kernel_rfl) rfl rfl ?_
 have hl:=Hold.start S
 refine zg ?_;refine re_boxL hl rfl rfl rfl rfl rfl rfl ?_
 intro B3 S3 hl
 refine zg ?_
 refine zc hl rfl (spec180 p q r t a cap C hn (hl.keep.3 hF) (hv.move (hl.since 0 rfl))) ?_;rintro v S1 hk1 hR hl
 rcases hR with ⟨_,e,he,rfl⟩|⟨hok,ag,G,rfl,hG,hGo,hGl⟩
 ·
  refine zg ?_
  constructor<;>intro h23
  ·
   refine zg ?_
   exact done3 rfl rfl rfl ⟨hl.keep,.inl ⟨e,he,rfl⟩⟩
  exact absurd (by simpa using h23) he
 have hGn:G.length=(lnsF p q r t C C.length).length:=by rw[←hGl,List.length_map]
 have hGi:=lns_le (p:=p) (q:=q) (r:=r) (t:=t) (C:=C) C.length
 refine zg ?_
 constructor<;>intro h29
 ·
  refine zg ?_
  exact done3 rfl rfl rfl ⟨hl.keep,.inl ⟨_,by decide,rfl⟩⟩
 have hPG:P.length=G.length:=by
  have h:(P.length:Int)=G.length:=by simpa using h29
  omega
 have hl:=hl.mark
 refine zg ?_;refine xe_sub (L':=[(11,.int .i64 0),(9,.slice ag G.length G.length),(8,.int .i64 0),(7,.slice none 0 0),(6,.slice none 0 0),(1,.slice a C.length cap),(2,.slice ap P.length cp)]) ⟨rfl,rfl,rfl,rfl,rfl,rfl,rfl,trivial⟩ ?_
 refine xp_loop rfl (fun m Le S'=>∃i:Nat,i≤G.length∧m=G.length-i∧SubE [(11,.int .i64 (i:Int)),(9,.slice ag G.length G.length),(8,.int .i64 0),(7,.slice none 0 0),(6,.slice none 0 0),(1,.slice a C.length cap),(2,.slice ap P.length cp)] Le∧HoldG S [S1,S] S' [(B3,.cells [.int .i64 p,.int .i64 q,.int .i64 r,.int .i64 t] 51 false true [])] []) ?_ (m:=G.length) ⟨0,by omega,by omega,⟨rfl,rfl,rfl,rfl,rfl,rfl,rfl,trivial⟩,hl⟩
 clear hl;rintro m Le S' ⟨i,hi,rfl,hsub,hl⟩;refine xe_sub hsub ?_
 refine zg ?_
 constructor<;>intro h33
 ·
  have hlt:i<G.length:=by have:=of_decide_eq_true h33;omega
  obtain⟨w,hw⟩:=nth_some hlt
  obtain⟨c,hc⟩:=nth_some (show i<P.length by omega)
  have hwl:w.C.length≤1000:=by
   have:=lns_all (p:=p) (q:=q) (r:=r) (t:=t) (C:=C) C.length w.C.length (by rw[←hGl];exact List.mem_map.2 ⟨w,nth_mem hw,rfl⟩)
   omega
  have hwo:=hGo w (nth_mem hw)
  obtain⟨b1,o1,cs1,ha1,_,hrow1,htk1⟩:=(hG.move (hl.since 0 rfl)).elem hw
  obtain⟨b2,o2,cs2,ha2,_,hrow2,htk2⟩:=(hP.move (hl.since 1 rfl)).elem hc
  refine zg ?_;refine xp_draw (idx:=[0,1,2,3,4,5,6,7,8,9]) rfl (by kernel_rfl) (by kernel_rfl) ?_;refine zg ?_
  refine zp hl rfl (spec221 w.a w.c w.C c hwl (hl.keep.3 hF) (hwo.move (hl.since 0 rfl))) ?_;rintro v S1 hk1 ⟨Q,rfl⟩ hl;refine⟨zt,?_⟩
  refine pr rfl (rd_un rfl rfl rfl) ?_;refine zg ?_
  constructor<;>intro h45
  ·
   refine zg ?_
   exact blk_ret (thn_ret (round_ret (blk_ret (done3 rfl rfl rfl ⟨hl.keep,.inl ⟨_,by decide,rfl⟩⟩))))
  refine zg ?_
  exact⟨G.length-(i+1),by omega,i+1,by omega,rfl,⟨rfl,rfl,rfl,rfl,rfl,rfl,rfl,trivial⟩,hl⟩
 clear hi hsub
 have hl:HoldG S [S] S' ([(B3,.cells [.int .i64 p,.int .i64 q,.int .i64 r,.int .i64 t] 51 false true [])]++([]++([]++[]))) []:=hl.marks (Us:=[S]) (fun T hT=>List.mem_cons_of_mem _ hT)
 refine zg ?_;refine xe_sub (L':=[(15,.int .i64 0),(14,.int .i64 0),(13,.slice none 0 0),(12,.slice none 0 0),(8,.int .i64 0),(7,.slice none 0 0),(6,.slice none 0 0),(1,.slice a C.length cap),(2,.slice ap P.length cp)]) ⟨rfl,rfl,rfl,rfl,rfl,rfl,rfl,rfl,rfl,trivial⟩ ?_
 refine xp_loop rfl (fun m Le S'=>∃(i j:Nat) (a1:Option Addr) (K:List Int) (f1:List (Nat×Blk)) (a2:Option Addr) (W:List Bool) (f2:List (Nat×Blk)),i≤C.length∧m=C.length-i∧j=(lnsF p q r t C i).length∧K.length=ndF C i∧W.length=ndF C i∧OwN (.slice a1 K.length K.length) K f1∧OwB (.slice a2 W.length W.length) W f2∧SubE [(15,.int .i64 (i:Int)),(14,.int .i64 (j:Int)),(13,.slice a2 W.length W.length),(12,.slice a1 K.length K.length),(8,.int .i64 0),(7,.slice none 0 0),(6,.slice none 0 0),(1,.slice a C.length cap),(2,.slice ap P.length cp)] Le∧HoldG S [S] S' ([(B3,.cells [.int .i64 p,.int .i64 q,.int .i64 r,.int .i64 t] 51 false true [])]++(f1++(f2++[]))) []) ?_ (m:=C.length) ⟨0,0,none,[],[],none,[],[],by omega,by omega,rfl,rfl,rfl,.inl ⟨rfl,rfl,rfl,rfl⟩,.inl ⟨rfl,rfl,rfl,rfl⟩,⟨rfl,rfl,rfl,rfl,rfl,rfl,rfl,rfl,rfl,trivial⟩,hl⟩
 clear hl;rintro m Le S' ⟨i,j,a1,K,f1,a2,W,f2,hi,rfl,hj,hK,hW,hO1,hO2,hsub,hl⟩;refine xe_sub hsub ?_
 have hji:=lns_le (p:=p) (q:=q) (r:=r) (t:=t) (C:=C) i
 have hni:=nd_le (C:=C) i
 refine zg ?_
 constructor<;>intro h49
 ·
  have hlt:i<C.length:=by have:=of_decide_eq_true h49;omega
  obtain⟨s,hs⟩:=nth_some hlt
  obtain⟨b1,o1,cs1,ha,_,hrow,htk⟩:=(hv.move (hl.since 0 rfl)).elem hs
  refine zg ?_
  constructor<;>intro h57
  ·
   have hk3:s.kind≠3:=by simpa using h57
   clear ha hrow htk
   refine zg ?_;refine re_buildSliceR hl rfl rfl rfl rfl rfl Tryz.underlying38 rfl (c:=ic 0) (by kernel_rfl) ?_;intro B59 S4 hr59 hl;refine re_appendW hl hO1 rfl rfl rfl rfl rfl rfl rfl Tryz.underlying38 Tryz.underlying38 rfl rfl (by decide) (by kernel_rfl) (src_row_ (n:=1) (cap:=1) (new:=ic 0) hr59 rfl) rfl rfl (by kernel_rfl) (by show K.length+1≤maxNeed;unfold maxNeed;omega) ?_;intro v60 f3 S5 hO3 hl
   obtain⟨a3,rfl⟩:=hO3.is
   have hO3:=num_push hO3
   have e3:K.length+1=(K++[(0:Int)]).length:=(len_push ..).symm
   rw[e3]
   refine zg ?_;refine re_buildSliceR hl rfl rfl rfl rfl rfl Tryz.underlying261 rfl (c:=bc false) (by kernel_rfl) ?_;intro B62 S6 hr62 hl
   have hl:HoldG S [S] S6 (([(B3,.cells [.int .i64 p,.int .i64 q,.int .i64 r,.int .i64 t] 51 false true [])]++f3)++(f2++[])) []:=hl.perm (.of_eq (List.append_assoc ..).symm)
   refine re_appendW hl hO2 rfl rfl rfl rfl rfl rfl rfl Tryz.underlying261 Tryz.underlying261 rfl rfl (by decide) (by kernel_rfl) (src_row_ (n:=1) (cap:=1) (new:=bc false) hr62 rfl) rfl rfl (by kernel_rfl) (by show W.length+1≤maxNeed;unfold maxNeed;omega) ?_;intro v63 f4 S7 hO4 hl
   obtain⟨a4,rfl⟩:=hO4.is
   have hO4:=bool_push hO4
   have e4:W.length+1=(W++[false]).length:=(len_push ..).symm
   rw[e4]
   have hl:HoldG S [S] S7 ([(B3,.cells [.int .i64 p,.int .i64 q,.int .i64 r,.int .i64 t] 51 false true [])]++(f3++(f4++[]))) []:=hl.perm (.of_eq (List.append_assoc ..))
   refine zg ?_
   exact⟨C.length-(i+1),by omega,i+1,j,a3,_,f3,a4,_,f4,by omega,rfl,by rw[lns_no hs hk3];exact hj,by rw[←e3,nd_no hs hk3];omega,by rw[←e4,nd_no hs hk3];omega,hO3,hO4,⟨rfl,rfl,rfl,rfl,rfl,rfl,rfl,rfl,rfl,trivial⟩,hl⟩
  have hk3:s.kind=3:=by simpa using h57
  obtain⟨i',s',rfl,hs',hsk'⟩:∃i' s',i=i'+1∧nth C i'=some s'∧s'.kind≠3:=by
   rcases hok.s i s hs with h|⟨_,j',u,e,hu,hu2,_⟩
   ·omega
   exact⟨j',u,e,hu,hu2⟩
  have hn1:=nd_no hs' hsk'
  have hln:=lns_dot (p:=p) (q:=q) (r:=r) (t:=t) hs hk3 hs'
  have hmo:=lns_mono (p:=p) (q:=q) (r:=r) (t:=t) (C:=C) (show i'+1+1≤C.length by omega)
  rw[hln,len_push,←hj]at hmo
  obtain⟨c,hc⟩:=nth_some (show j<P.length by omega)
  clear ha hrow htk
  obtain⟨b2,o2,cs2,ha,_,hrow,htk⟩:=(hP.move (hl.since 0 rfl)).elem hc
  have hK0:0<K.length:=by omega
  have hW0:0<W.length:=by omega
  obtain⟨bK,hbK⟩:=OW.ne hO1 hK0
  obtain⟨bW,hbW⟩:=OW.ne hO2 hW0
  rw[hbK]at hO1;rw[hbW]at hO2
  refine zg ?_
  have e15:0+((K.length:Int)-1).toNat*1=K.length-1:=by omega
  rw[e15]
  obtain⟨bx,S4,f3,e1,hs1,hO3,hl3⟩:=store_W (P:=Tryz.prog) hl hO1 hK0 rfl (t:=3) (u:= .int .i64 c) (by kernel_rfl) (setN_set (g:=fun x=>Value.int .i64 x) c (k:=K.length-1) (by omega)) ((flat_len (f:=fun x=>[Value.int .i64 x]) (z:=1) (fun _=>rfl) _).trans ((congrArg (· *1) (set_len ..)).trans (flat_len (f:=ic) (z:=1) (fun _=>rfl) _).symm))
  cases e1
  refine re_store rfl rfl rfl rfl rfl rfl hs1 ?_
  clear ha hrow htk hl hs1
  have hl:HoldG S [S] S4 (([(B3,.cells [.int .i64 p,.int .i64 q,.int .i64 r,.int .i64 t] 51 false true [])]++f3)++(f2++[])) []:=hl3.perm (.of_eq (List.append_assoc ..).symm)
  obtain⟨b2,o2,cs2,ha,_,hrow,htk⟩:=(hP.move (hl.since 0 rfl)).elem hc
  refine zg ?_
  have e16:0+((W.length:Int)-1).toNat*1=W.length-1:=by omega
  rw[e16]
  obtain⟨by_,S5,f4,e2,hs2,hO4,hl4⟩:=store_W (P:=Tryz.prog) hl hO2 hW0 rfl (t:=4) (u:= .bool (c==0)) (by kernel_rfl) (setN_set (g:=fun x=>Value.bool x) (c==0) (k:=W.length-1) (by omega)) ((flat_len (f:=fun x=>[Value.bool x]) (z:=1) (fun _=>rfl) _).trans ((congrArg (· *1) (set_len ..)).trans (flat_len (f:=bc) (z:=1) (fun _=>rfl) _).symm))
  cases e2
  refine re_store rfl rfl rfl rfl rfl rfl hs2 ?_
  clear ha hrow htk hl hs2
  have hl:HoldG S [S] S5 ([(B3,.cells [.int .i64 p,.int .i64 q,.int .i64 r,.int .i64 t] 51 false true [])]++(f3++(f4++[]))) []:=hl4.perm (.of_eq (List.append_assoc ..))
  have hO3:OwN (.slice (some ⟨bK,0,none⟩) (K.set (K.length-1) c).length (K.set (K.length-1) c).length) (K.set (K.length-1) c) f3:=by unfold OwN;rw[set_len];exact hO3
  have hO4:OwB (.slice (some ⟨bW,0,none⟩) (W.set (W.length-1) (c==0)).length (W.set (W.length-1) (c==0)).length) (W.set (W.length-1) (c==0)) f4:=by unfold OwB;rw[set_len];exact hO4
  have eK:(K.set (K.length-1) c).length=K.length:=set_len ..
  have eW:(W.set (W.length-1) (c==0)).length=W.length:=set_len ..
  rw[hbK,hbW,←eK,←eW]
  refine zg ?_
  exact⟨C.length-(i'+1+1),by omega,i'+1+1,j+1,_,_,f3,_,_,f4,by omega,rfl,by rw[hln,len_push,←hj],by rw[eK,nd_dot hs hk3];exact hK,by rw[eW,nd_dot hs hk3];exact hW,hO3,hO4,⟨rfl,rfl,rfl,rfl,rfl,rfl,rfl,rfl,rfl,trivial⟩,hl⟩
 have hi2:i=C.length:=by have:=of_decide_eq_false h49;omega
 subst hi2
 refine zg ?_
 have hl1:=OW.at_ (f:=ic) (fun _=>rfl) hO1 hl mem_mid
 have hl2:=OW.at_ (f:=bc) (fun _=>rfl) hO2 hl (fun p hp=>List.mem_append.2 (.inr (List.mem_append.2 (.inr (List.mem_append.2 (.inl hp))))))
 exact done_ret (ress_tmp rfl (ress_tmp rfl (ress_tmp rfl rfl))) ⟨hl.keep,.inr ⟨hok,a1,K,a2,W,rfl,hl1,hl2,hK,hW⟩⟩
end Go.Proofs.YtmfphenhpkgidaaGreatDoor
namespace Go.Proofs.YtmfphenhpkgidaaGreatDoor
open Go.Cm Go
set_option maxRecDepth 100000
variable{S:St}
def sg0:Sg:=⟨0,0,0,0,false,0,false,false,0,0,0,0,false,0,0,0,0⟩
theorem wrap_hi(n:Int):IntKind.i64.wrap n≤9223372036854775807:=by
 rw[Go.IntWalk.i64_left]
 unfold RowKit.wrap64
 omega
noncomputable def cd274:Code:=Tryz.f274.body.getD .skip
theorem spec274(x:Ti)(n d:Int):CC Tryz.prog KK 274 [x.v,.int .i64 n,.int .i64 d] S (fun v S'=>Keep S S'∧(∃y:Ti,v=y.v)):=by
 refine cc_enter (c:=cd274) (n:=22) Tryz.func274 rfl rfl rfl (by kernel_rfl) rfl rfl ?_
 have hl:=Hold.start S
 refine zg ?_;refine re_boxL hl rfl rfl rfl rfl rfl rfl ?_
 intro B3 S3 hl
 refine re_allocL hl rfl rfl rfl rfl rfl (z:=[.int .i64 0,.int .i64 0]) (by kernel_rfl) ?_
 intro B6 S6 hl
 refine zg ?_
 refine zc hl rfl (spec315 _ _ (wrap_hi _) (wrap_hi _)) ?_;rintro v S1 hk1 ⟨y,e,rfl,_⟩ hl
 refine zg ?_;refine re_allocL hl rfl rfl rfl rfl rfl (z:=[.int .i64 0,.int .i64 0]) (by kernel_rfl) ?_
 intro B7 S7 hl
 refine re_storeL hl 0 rfl rfl rfl rfl rfl rfl rfl (by kernel_rfl) (c':=y.cells) rfl ?_
 intro S1 hl
 refine zg ?_;refine re_storeL hl 1 rfl rfl rfl rfl rfl rfl rfl (by kernel_rfl) (c':=y.cells) rfl ?_
 intro S1 hl
 refine zg ?_
 exact done_ret (ress_cell rfl (lN (z:=2) (hl.get 1 rfl) rfl) rfl) ⟨hl.keep,y,rfl⟩
noncomputable def cd223:Code:=Tryz.f223.body.getD .skip
theorem spec223(x:Sg):CC Tryz.prog KK 223 [x.v] S (fun v S'=>Keep S S'∧(∃B:Bool,v= .bool B)):=by
 refine cc_enter (c:=cd223) (n:=10) Tryz.func223 rfl rfl rfl (by kernel_rfl) rfl rfl ?_
 have hl:=Hold.start S
 refine zg ?_;refine re_boxL hl rfl rfl rfl rfl rfl rfl ?_
 intro B1 S1 hl
 refine zA ?_;refine xp_seq rfl (xe_cut (fun Le S'=>∃b:Bool,SubE [(2,.bool b)] Le∧HoldG S [S] S' [(B1,.cells x.cells 55 false true [])] []) ?_ ?_)
 ·
  refine zg ?_;refine re_bool (d:=6) rfl (fun h6=>?_) (fun h6=>?_)
  ·
   refine zg ?_
   exact⟨rfl,_,⟨rfl,trivial⟩,hl⟩
  refine zg ?_
  exact⟨rfl,_,⟨rfl,trivial⟩,hl⟩
 clear hl;rintro Le S' ⟨b,hsub,hl⟩;refine xe_sub hsub ?_
 refine zg ?_
 exact y1 rfl ⟨hl.keep,_,rfl⟩
noncomputable def cd314:Code:=Tryz.f314.body.getD .skip
theorem spec314(a:Option Addr)(cap:Nat)(C:List Sg)(i st:Int)(hn:C.length≤1000)(hi: -1≤i∧i≤C.length+1)(hs:st=1∨st= -1)(_:Fresh S)(hv:Sgs S (.slice a C.length cap) C):CC Tryz.prog KK 314 [.slice a C.length cap,.int .i64 i,.int .i64 st] S (fun v S'=>Keep S S'∧(∃(y:Sg) (B:Bool),v=tupV [y.v,.bool B])):=by
 refine cc_enter (c:=cd314) (n:=30) Tryz.func314 rfl rfl rfl (by kernel_rfl) rfl rfl ?_
 have hl:=Hold.start S
 refine zg ?_;refine re_allocL hl rfl rfl rfl rfl rfl (z:=[.int .i64 0,.int .i64 0,.int .i64 0,.int .i64 0,.bool false,.int .i64 0,.bool false,.bool false,.int .i64 0,.int .i64 0,.int .i64 0,.int .i64 0,.bool false,.int .i64 0,.int .i64 0,.int .i64 0,.int .i64 0]) (by kernel_rfl) ?_
 intro B6 S6 hl
 refine zA ?_;refine xp_seq rfl ?_;refine xp_block rfl ?_;refine xe_sub (L':=[(7,.bool false),(6,ptrTo B6 0),(0,.slice a C.length cap),(1,.int .i64 i),(2,.int .i64 st)]) ⟨rfl,rfl,rfl,rfl,rfl,trivial⟩ ?_
 refine xp_loop rfl (fun m Le S'=>∃j:Int, -1≤j∧j≤C.length+1∧m=(2000-st*j).toNat∧SubE [(7,.bool false),(6,ptrTo B6 0),(0,.slice a C.length cap),(1,.int .i64 j),(2,.int .i64 st)] Le∧HoldG S [S] S' [(B6,.cells [.int .i64 0,.int .i64 0,.int .i64 0,.int .i64 0,.bool false,.int .i64 0,.bool false,.bool false,.int .i64 0,.int .i64 0,.int .i64 0,.int .i64 0,.bool false,.int .i64 0,.int .i64 0,.int .i64 0,.int .i64 0] 55 false true [])] []) ?_ (m:=(2000-st*i).toNat) ⟨i,hi.1,hi.2,rfl,⟨rfl,rfl,rfl,rfl,rfl,trivial⟩,hl⟩
 clear hl;rintro m Le S' ⟨j,hj1,hj2,rfl,hsub,hl⟩;refine xe_sub hsub ?_
 refine xp_seq rfl ?_;refine xp_seq rfl (xe_toE hl 15 (.bool (decide (j≥0)&&decide (j<(C.length:Int)))) ?_ rfl ?_)
 ·
  refine zg ?_;refine re_bool (d:=10) rfl (fun h10=>?_) (fun h10=>?_)
  ·
   refine zg ?_
   exact⟨rfl,bl (by rw[h10];rfl),sB,hl⟩
  refine zg ?_
  exact⟨rfl,bl (by rw[h10];rfl),sB,hl⟩
 intro S1 hl
 refine zg ?_
 constructor<;>intro h15
 ·
  have h15:j≥0∧j<(C.length:Int):=by simpa using h15
  obtain⟨k,rfl,hk⟩:=int_n h15.1 h15.2
  obtain⟨x,hx⟩:=nth_some hk
  obtain⟨b1,o1,cs1,ha,_,hrow,htk⟩:=hv.elem hx
  refine zg ?_
  constructor<;>intro h21
  ·
   refine zg ?_;refine re_storeL hl 0 rfl rfl rfl rfl rfl rfl rfl (by kernel_rfl) (c':=x.cells) rfl ?_
   intro S1 hl
   refine zg ?_
   exact thn_ret (blk_ret (round_ret (blk_ret (thn_ret (done_ret (ress_cell rfl (lN (z:=17) (hl.get 0 rfl) rfl) (ress_tmp rfl rfl)) ⟨hl.keep,x,_,rfl⟩)))))
  have hb: -1≤(k:Int)+st∧(k:Int)+st≤C.length+1:=by rcases hs with rfl|rfl<;>omega
  refine zg ?_
  exact⟨(2000-st*((k:Int)+st)).toNat,by rcases hs with rfl|rfl<;>omega,(k:Int)+st,hb.1,hb.2,rfl,⟨rfl,rfl,rfl,rfl,rfl,trivial⟩,hl⟩
 refine zg ?_;refine rr rfl (rd_build rfl rfl (v:=aggL sg0.cells) (by rfl)) ?_;refine re_storeL hl 0 rfl rfl rfl rfl rfl rfl rfl (by kernel_rfl) (c':=sg0.cells) rfl ?_
 intro S1 hl
 refine zg ?_
 exact done_ret (ress_cell rfl (lN (z:=17) (hl.get 0 rfl) rfl) (ress_tmp rfl rfl)) ⟨hl.keep,sg0,_,rfl⟩
noncomputable def cd272:Code:=Tryz.f272.body.getD .skip
set_option maxHeartbeats 4000000 in
theorem spec272(p q r t:Int)(a:Option Addr)(cap:Nat)(C:List Sg)(i:Nat)(hn:C.length≤1000)(hi:i<C.length)(hF:Fresh S)(hv:Sgs S (.slice a C.length cap) C):CC Tryz.prog KK 272 [mV4 p q r t,.slice a C.length cap,.int .i64 (i:Int)] S (fun v S'=>Keep S S'∧(∃B:Bool,v= .bool B)):=by
 refine cc_enter (c:=cd272) (n:=97) Tryz.func272 rfl rfl rfl (by kernel_rfl) rfl rfl ?_
 have hl:=Hold.start S
 refine zg ?_;refine re_boxL hl rfl rfl rfl rfl rfl rfl ?_
 intro B3 S3 hl
 refine zA ?_;refine xp_seq rfl ?_;refine xp_seq rfl (xe_toI 54 (fun v S'=>∃B:Bool,v= .bool B∧(B=false→(i:Int)+1<C.length)∧HoldG S [S] S' [(B3,.cells [.int .i64 p,.int .i64 q,.int .i64 r,.int .i64 t] 51 false true [])] []) ?_ ?_)
 ·
  refine zg ?_;refine re_bool (d:=16) rfl (fun h16=>?_) (fun h16=>?_)
  ·
   refine zg ?_
   exact⟨rfl,_,bl rfl,sB,_,rfl,nofun,hl⟩
  have h16:(i:Int)+1<C.length:=by have:=of_decide_eq_false h16;omega
  obtain⟨x,hx⟩:=nth_some hi
  obtain⟨y,hy⟩:=nth_some (show i+1<C.length by omega)
  obtain⟨b1,o1,cs1,ha,_,hrow,htk,htk2⟩:=hv.elem2 hx hy
  refine zg ?_
  refine zc hl rfl (spec223 x) ?_;rintro v S1 hk1 ⟨Q1,rfl⟩ hl
  refine rr rfl (rd_un rfl rfl rfl) ?_;refine zg ?_;refine re_bool (d:=24) rfl (fun h24=>?_) (fun h24=>?_)
  ·
   refine zg ?_
   exact⟨rfl,_,bl rfl,sB,_,rfl,fun _=>h16,hl⟩
  refine zg ?_;refine re_bool (d:=32) rfl (fun h32=>?_) (fun h32=>?_)
  ·
   refine zg ?_
   exact⟨rfl,_,bl rfl,sB,_,rfl,fun _=>h16,hl⟩
  refine zg ?_
  refine zc hl rfl (spec223 y) ?_;rintro v S1 hk1 ⟨Q2,rfl⟩ hl
  refine rr rfl (rd_un rfl rfl rfl) ?_;refine zg ?_;refine re_bool (d:=41) rfl (fun h41=>?_) (fun h41=>?_)
  ·
   refine zg ?_
   exact⟨rfl,_,bl rfl,sB,_,rfl,fun _=>h16,hl⟩
  refine zg ?_;refine re_bool (d:=50) rfl (fun h50=>?_) (fun h50=>?_)
  ·
   refine zg ?_
   exact⟨rfl,_,bl rfl,sB,_,rfl,fun _=>h16,hl⟩
  refine zg ?_
  refine zc hl rfl (spec178 p q r t 4) ?_;rintro v S1 hk1 rfl hl
  refine zg ?_
  exact⟨rfl,_,bl rfl,sB,_,rfl,fun _=>h16,hl⟩
 clear hl;rintro v S1 ⟨Q,rfl,hQ,hl⟩
 refine zg ?_
 constructor<;>intro h54
 ·
  refine zg ?_
  exact(z1 rfl ⟨hl.keep,_,rfl⟩)
 have h16:=hQ h54
 refine xp_skip rfl ?_;refine xp_seq rfl ?_;refine xp_seq rfl (xe_toW hl 68 Value.bool ?_ rfl ?_)
 ·
  refine zg ?_;refine re_bool (d:=60) rfl (fun h60=>?_) (fun h60=>?_)
  ·
   have h60:=of_decide_eq_true h60
   obtain⟨y,hy⟩:=nth_some (show i+2<C.length by omega)
   obtain⟨b1,o1,cs1,ha,_,hrow,htk⟩:=hv.elem hy
   refine zg ?_
   exact⟨rfl,⟨_,bl rfl⟩,sB,hl⟩
  refine zg ?_
  exact⟨rfl,⟨_,bl rfl⟩,sB,hl⟩
 clear hl;intro q68 S1 hl
 refine zg ?_
 constructor<;>intro h68
 ·
  refine zg ?_
  exact(z1 rfl ⟨hl.keep,_,rfl⟩)
 refine zg ?_
 refine zc hl rfl (spec314 a cap C ((i:Int)-1) (-1) hn (by omega) (.inr rfl) (hl.keep.3 hF) (hv.move (hl.since 0 rfl))) ?_;rintro v S1 hk1 ⟨x,f1,rfl⟩ hl
 refine zg ?_;refine re_allocL hl rfl rfl rfl rfl rfl (z:=[.int .i64 0,.int .i64 0,.int .i64 0,.int .i64 0,.bool false,.int .i64 0,.bool false,.bool false,.int .i64 0,.int .i64 0,.int .i64 0,.int .i64 0,.bool false,.int .i64 0,.int .i64 0,.int .i64 0,.int .i64 0]) (by kernel_rfl) ?_
 intro B7 S7 hl
 refine re_storeL hl 0 rfl rfl rfl rfl rfl rfl rfl (by kernel_rfl) (c':=x.cells) rfl ?_
 intro S1 hl
 refine zg ?_
 refine zc hl rfl (spec314 a cap C ((i:Int)+2) 1 hn (by omega) (.inl rfl) (hl.keep.3 hF) (hv.move (hl.since 0 rfl))) ?_;rintro v S1 hk1 ⟨y,f2,rfl⟩ hl
 refine zg ?_;refine re_allocL hl rfl rfl rfl rfl rfl (z:=[.int .i64 0,.int .i64 0,.int .i64 0,.int .i64 0,.bool false,.int .i64 0,.bool false,.bool false,.int .i64 0,.int .i64 0,.int .i64 0,.int .i64 0,.bool false,.int .i64 0,.int .i64 0,.int .i64 0,.int .i64 0]) (by kernel_rfl) ?_
 intro B9 S9 hl
 refine re_storeL hl 0 rfl rfl rfl rfl rfl rfl rfl (by kernel_rfl) (c':=y.cells) rfl ?_
 intro S1 hl
 refine zA ?_;refine xp_seq rfl (xe_cut (fun Le S'=>∃b:Bool,SubE [(6,.bool b)] Le∧HoldG S [S] S' [(B9,.cells y.cells 55 false true []),(B7,.cells x.cells 55 false true []),(B3,.cells [.int .i64 p,.int .i64 q,.int .i64 r,.int .i64 t] 51 false true [])] []) ?_ ?_)
 ·
  refine zg ?_;refine re_bool (d:=84) rfl (fun h84=>?_) (fun h84=>?_)
  ·
   refine zg ?_
   refine zc hl rfl (spec223 x) ?_;rintro v S1 hk1 ⟨Q1,rfl⟩ hl
   refine zg ?_;refine rr rfl (rd_un rfl rfl rfl) ?_;refine zg ?_;refine re_bool (d:=89) rfl (fun h89=>?_) (fun h89=>?_)
   ·
    refine zg ?_;refine re_bool (d:=91) rfl (fun h91=>?_) (fun h91=>?_)
    ·
     refine zg ?_
     refine zc hl rfl (spec223 y) ?_;rintro v S1 hk1 ⟨Q2,rfl⟩ hl
     refine zg ?_;refine rr rfl (rd_un rfl rfl rfl) ?_;refine zg ?_
     exact⟨rfl,_,⟨rfl,trivial⟩,hl⟩
    refine zg ?_;refine rr rfl (rd_un rfl rfl rfl) ?_;refine zg ?_
    exact⟨rfl,_,⟨rfl,trivial⟩,hl⟩
   refine zg ?_
   exact⟨rfl,_,⟨rfl,trivial⟩,hl⟩
  refine zg ?_;refine rr rfl (rd_un rfl rfl rfl) ?_;refine zg ?_;refine re_bool (d:=89) rfl (fun h89=>?_) (fun h89=>?_)
  ·
   refine zg ?_;refine re_bool (d:=91) rfl (fun h91=>?_) (fun h91=>?_)
   ·
    refine zg ?_
    refine zc hl rfl (spec223 y) ?_;rintro v S1 hk1 ⟨Q2,rfl⟩ hl
    refine zg ?_;refine rr rfl (rd_un rfl rfl rfl) ?_;refine zg ?_
    exact⟨rfl,_,⟨rfl,trivial⟩,hl⟩
   refine zg ?_;refine rr rfl (rd_un rfl rfl rfl) ?_;refine zg ?_
   exact⟨rfl,_,⟨rfl,trivial⟩,hl⟩
  cases h89
 clear hl;rintro Le S' ⟨b,hsub,hl⟩;refine xe_sub hsub ?_
 refine zg ?_
 exact y1 rfl ⟨hl.keep,_,rfl⟩
def PrsR(S':St)(p q r t:Int)(C:List Sg)(v:Value):Prop:=(∃e:Int,e≠0∧v=tupV [.slice none 0 0,.int .i64 e])∨(ChkOk p q r t C∧∃a1 K,v=tupV [.slice a1 K.length K.length,.int .i64 0]∧Nums S' (.slice a1 K.length K.length) K∧K.length≤C.length)
noncomputable def cd219:Code:=Tryz.f219.body.getD .skip
theorem spec219(p q r t:Int)(a:Option Addr)(cap:Nat)(C:List Sg)(hn:C.length≤1000)(hF:Fresh S)(hv:Sgs S (.slice a C.length cap) C):CC Tryz.prog KK 219 [mV4 p q r t,.slice a C.length cap] S (fun v S'=>Keep S S'∧(PrsR S' p q r t C v)):=by
 refine cc_enter (c:=cd219) (n:=30) Tryz.func219 rfl rfl rfl (by kernel_rfl) rfl rfl ?_
 have hl:=Hold.start S
 refine zg ?_;refine re_boxL hl rfl rfl rfl rfl rfl rfl ?_
 intro B2 S2 hl
 refine zg ?_
 refine zc hl rfl (spec218 p q r t a cap C hn (hl.keep.3 hF) (hv.move (hl.since 0 rfl))) ?_;rintro v S1 hk1 ⟨e,rfl,he⟩ hl
 refine zg ?_
 constructor<;>intro h13
 ·
  refine zg ?_
  exact(z2 rfl rfl ⟨hl.keep,.inl ⟨e,by simpa using h13,rfl⟩⟩)
 have hok:=he.1 (by simpa using h13)
 refine xp_skip rfl ?_;refine zS ?_;refine xp_seq rfl ?_;refine zS ?_;refine xp_block rfl ?_
 have hl:=hl.addG (g:=gI' none []) (.inl ⟨rfl,rfl,rfl⟩)
 refine xe_sub (L':=[(8,.int .i64 0),(7,.slice none 0 0),(5,.int .i64 0),(4,.slice none 0 0),(2,ptrTo B2 0),(1,.slice a C.length cap)]) ⟨rfl,rfl,rfl,rfl,rfl,rfl,trivial⟩ ?_
 refine xp_loop rfl (fun m Le S'=>∃(i:Nat) (av:Option Addr) (K:List Int),i≤C.length∧m=C.length-i∧K.length≤i∧SubE [(8,.int .i64 (i:Int)),(7,.slice av K.length K.length),(5,.int .i64 0),(4,.slice none 0 0),(2,ptrTo B2 0),(1,.slice a C.length cap)] Le∧HoldG S [S] S' [(B2,.cells [.int .i64 p,.int .i64 q,.int .i64 r,.int .i64 t] 51 false true [])] [gI' av K]) ?_ (m:=C.length) ⟨0,none,[],by omega,by omega,by simp,⟨rfl,rfl,rfl,rfl,rfl,rfl,trivial⟩,hl⟩
 clear hl;rintro m Le S' ⟨i,av,K,hi,rfl,hK,hsub,hl⟩;refine xe_sub hsub ?_
 refine zg ?_
 constructor<;>intro h18
 ·
  have hlt:i<C.length:=by have:=of_decide_eq_true h18;omega
  refine zg ?_
  refine zc hl rfl (spec272 p q r t a cap C i hn hlt (hl.keep.3 hF) (hv.move (hl.since 0 rfl))) ?_;rintro v S1 hk1 ⟨Q,rfl⟩ hl
  refine zg ?_
  constructor<;>intro h24
  ·
   refine zg ?_;refine re_buildSliceR hl rfl rfl rfl rfl rfl Tryz.underlying38 rfl (c:=ic (i:Int)) (by kernel_rfl) ?_;intro B27 S1 hr27 hl;refine re_appendG hl 0 rfl rfl (by simp) rfl rfl rfl rfl rfl rfl rfl Tryz.underlying38 Tryz.underlying38 rfl rfl (by kernel_rfl) (src_row_ (n:=1) (cap:=1) hr27 rfl) rfl rfl (by kernel_rfl) (by show K.length+1≤maxNeed;unfold maxNeed;omega) ?_;intro v28 S1 hl
   obtain⟨av2,rfl⟩:∃x,v28= .slice x (K.length+1) (K.length+1):=Grow.is_ (hl.gr _ (List.mem_cons_self ..))
   have hl:HoldG S [S] S1 _ [gI' av2 (K++[(i:Int)])]:=gI_ok hl
   refine zg ?_
   exact⟨C.length-(i+1),by omega,i+1,av2,_,by omega,rfl,by rw[len_push];omega,⟨rfl,by rw[len_push];rfl,rfl,rfl,rfl,rfl,trivial⟩,hl⟩
  refine zg ?_
  exact⟨C.length-(i+1),by omega,i+1,av,K,by omega,rfl,by omega,⟨rfl,rfl,rfl,rfl,rfl,rfl,trivial⟩,hl⟩
 refine zg ?_
 exact y2 rfl rfl ⟨hl.keep,.inr ⟨hok,av,K,rfl,Grow.ls (f:=ic) (fun _=>rfl) (hl.gr _ (List.mem_cons_self ..)),by omega⟩⟩
end Go.Proofs.YtmfphenhpkgidaaGreatDoor
namespace Go.Proofs.YtmfphenhpkgidaaGreatDoor
open Go.Cm Go
set_option maxRecDepth 100000
variable{S:St}
noncomputable def cd224:Code:=Tryz.f224.body.getD .skip
theorem spec224(p q r t k:Int)(hk: -100≤k∧k≤100)(ih:k<5→∀S:St,CC Tryz.prog KK 224 [mV4 p q r t,.int .i64 (k+1)] S (fun v S'=>Keep S S'∧∃y:Ti,v=y.v)):CC Tryz.prog KK 224 [mV4 p q r t,.int .i64 k] S (fun v S'=>Keep S S'∧(∃y:Ti,v=y.v)):=by
 refine cc_enter (c:=cd224) (n:=45) Tryz.func224 rfl rfl rfl (by kernel_rfl) rfl rfl ?_
 have hl:=Hold.start S
 refine zg ?_;refine re_boxL hl rfl rfl rfl rfl rfl rfl ?_
 intro B2 S2 hl
 refine re_allocL hl rfl rfl rfl rfl rfl (z:=[.int .i64 0,.int .i64 0]) (by kernel_rfl) ?_
 intro B4 S4 hl
 refine zg ?_
 refine zc hl rfl (spec222 p q r t k hk) ?_;rintro v S1 hk1 ⟨x,e,rfl⟩ hl
 refine zg ?_;refine re_allocL hl rfl rfl rfl rfl rfl (z:=[.int .i64 0,.int .i64 0]) (by kernel_rfl) ?_
 intro B5 S5 hl
 refine re_storeL hl 0 rfl rfl rfl rfl rfl rfl rfl (by kernel_rfl) (c':=x.cells) rfl ?_
 intro S1 hl
 refine zg ?_
 refine zc hl rfl (spec143 p q r t) ?_;rintro v S1 hk1 hL hl
 obtain⟨al,cl,D,e2,rfl⟩:∃(al:Option Addr) (cl:Nat) (D:List Int) (e2:Int),v=tupV [.slice al D.length cl,.int .i64 e2]:=by
  rcases hL with ⟨e2,_,rfl⟩|⟨al,D,rfl,_⟩
  ·exact⟨none,0,[],e2,rfl⟩
  exact⟨al,D.length,D,0,rfl⟩
 clear hL
 refine zA ?_;refine xp_seq rfl ?_;refine xp_block rfl ?_;refine xp_seq rfl (xe_toI 20 (fun v S'=>∃B:Bool,v= .bool B∧(B=false→5≤k∨k<5)∧HoldG S [S] S' [(B5,.cells x.cells 103 false true []),(B4,.cells [.int .i64 0,.int .i64 0] 103 false true []),(B2,.cells [.int .i64 p,.int .i64 q,.int .i64 r,.int .i64 t] 51 false true [])] []) ?_ ?_)
 ·
  refine zg ?_;refine re_bool (d:=24) rfl (fun h24=>?_) (fun h24=>?_)
  ·
   refine zg ?_
   exact⟨rfl,_,bl rfl,sB,_,rfl,fun _=>by omega,hl⟩
  refine zg ?_;refine re_bool (d:=27) rfl (fun h27=>?_) (fun h27=>?_)
  ·
   refine zg ?_
   refine zc hl rfl (spec178 p q r t k) ?_;rintro v S1 hk1 rfl hl
   refine zg ?_
   exact⟨rfl,_,bl rfl,sB,_,rfl,fun _=>by omega,hl⟩
  refine zg ?_
  exact⟨rfl,_,bl rfl,sB,_,rfl,fun _=>by omega,hl⟩
 clear hl;rintro v S1 ⟨Q,rfl, -,hl⟩
 refine zg ?_
 constructor<;>intro h20
 ·
  refine zg ?_
  refine zc hl rfl (spec274 x 2 3) ?_;rintro v S1 hk1 ⟨y,rfl⟩ hl
  refine re_storeL hl 1 rfl rfl rfl rfl rfl rfl rfl (by kernel_rfl) (c':=y.cells) rfl ?_
  intro S1 hl
  refine zg ?_
  exact blk_ret (thn_ret (done_ret (ress_cell rfl (lN (z:=2) (hl.get 1 rfl) rfl) rfl) ⟨hl.keep,y,rfl⟩))
 refine zg ?_
 constructor<;>intro h36
 ·
  refine zg ?_;refine re_storeL hl 1 rfl rfl rfl rfl rfl rfl rfl (by kernel_rfl) (c':=x.cells) rfl ?_
  intro S1 hl
  refine zg ?_
  exact blk_ret (thn_ret (done_ret (ress_cell rfl (lN (z:=2) (hl.get 1 rfl) rfl) rfl) ⟨hl.keep,x,rfl⟩))
 have h36:k<5:=by have:=of_decide_eq_false h36;omega
 refine zg ?_
 refine zc hl rfl (ih h36 _) ?_;rintro v S1 hk1 ⟨x2,rfl⟩ hl
 refine zc hl rfl (spec274 x2 2 1) ?_;rintro v S1 hk1 ⟨y,rfl⟩ hl
 refine re_storeL hl 1 rfl rfl rfl rfl rfl rfl rfl (by kernel_rfl) (c':=y.cells) rfl ?_
 intro S1 hl
 refine zg ?_
 exact done_ret (ress_cell rfl (lN (z:=2) (hl.get 1 rfl) rfl) rfl) ⟨hl.keep,y,rfl⟩
theorem durAny(p q r t:Int):∀(n:Nat) (k:Int), -100≤k∧k≤100→100-k≤n→∀S:St,CC Tryz.prog KK 224 [mV4 p q r t,.int .i64 k] S (fun v S'=>Keep S S'∧∃y:Ti,v=y.v)
 |0,k,hk,hn,_=>spec224 p q r t k hk (fun h=>by omega)
 |n+1,k,hk,hn,_=>spec224 p q r t k hk (fun h=>durAny p q r t n (k+1) (by omega) (by omega))
abbrev gT(av:Option Addr)(D:List Ti):Gr:=gOf 103 2 Ti.cells (.slice av D.length D.length) D
theorem gT_ok{Ts:List St}{S0 S1:St}{l:List (Nat×Blk)}{av:Option Addr}{D:List Ti}{x:Ti}(h:HoldG S0 Ts S1 l [⟨.slice av (D.length+1) (D.length+1),103,2,(D.map Ti.cells).flatten++x.cells,D.length+1⟩]):HoldG S0 Ts S1 l [gT av (D++[x])]:=by
 unfold gT
 rw[gOf_push]
 exact h
theorem chk_val{p q r t:Int}{C:List Sg}(h:ChkOk p q r t C){i:Nat}{s:Sg}(hs:nth C i=some s)(hk:s.kind≠3):1≤s.value∧s.value≤8:=by
 rcases h.s i s hs with h|h
 ·exact h.2
 exact absurd h.1 hk
def DrsR(S':St)(n:Nat)(v:Value):Prop:=(∃e:Int,e≠0∧v=tupV [.slice none 0 0,.int .i64 e])∨(∃a1 K,v=tupV [.slice a1 K.length K.length,.int .i64 0]∧Tis S' (.slice a1 K.length K.length) K∧K.length=n)
noncomputable def cd182:Code:=Tryz.f182.body.getD .skip
set_option maxHeartbeats 4000000 in
theorem spec182(p q r t:Int)(a:Option Addr)(cap:Nat)(C:List Sg)(ap:Option Addr)(cp:Nat)(P:List Int)(hn:C.length≤1000)(hp:P.length≤1000)(hF:Fresh S)(hv:Sgs S (.slice a C.length cap) C)(hP:Nums S (.slice ap P.length cp) P):CC Tryz.prog KK 182 [mV4 p q r t,.slice a C.length cap,.slice ap P.length cp] S (fun v S'=>Keep S S'∧(DrsR S' (ndF C C.length) v)):=by
 refine cc_enter (c:=cd182) (n:=124) Tryz.func182 rfl rfl rfl (by kernel_rfl) rfl rfl ?_
 have hl:=Hold.start S
 refine zg ?_;refine re_boxL hl rfl rfl rfl rfl rfl rfl ?_
 intro B3 S3 hl
 refine zg ?_
 refine zc hl rfl (spec219 p q r t a cap C hn (hl.keep.3 hF) (hv.move (hl.since 0 rfl))) ?_;rintro v S1 hk1 hR hl
 rcases hR with ⟨e,he,rfl⟩|⟨hok,ak,K,rfl,hK,hKl⟩
 ·
  refine zg ?_
  constructor<;>intro h23
  ·
   refine zg ?_
   exact z2 rfl rfl ⟨hl.keep,.inl ⟨e,he,rfl⟩⟩
  exact absurd (by simpa using h23) he
 refine zg ?_
 constructor<;>intro h29
 ·
  refine zg ?_
  exact z2 rfl rfl ⟨hl.keep,.inl ⟨_,by decide,rfl⟩⟩
 have hPK:P.length=K.length:=by
  have h:(P.length:Int)=K.length:=by simpa using h29
  omega
 have hl:=hl.mark
 refine xp_skip rfl ?_;refine xp_seq rfl ?_;refine zS ?_;refine xp_block rfl ?_;refine xe_sub (L':=[(10,.int .i64 0),(8,.slice ak K.length K.length),(7,.int .i64 0),(6,.slice none 0 0),(3,ptrTo B3 0),(1,.slice a C.length cap),(2,.slice ap P.length cp)]) ⟨rfl,rfl,rfl,rfl,rfl,rfl,rfl,trivial⟩ ?_
 refine xp_loop rfl (fun m Le S'=>∃i:Nat,i≤P.length∧m=P.length-i∧SubE [(10,.int .i64 (i:Int)),(8,.slice ak K.length K.length),(7,.int .i64 0),(6,.slice none 0 0),(3,ptrTo B3 0),(1,.slice a C.length cap),(2,.slice ap P.length cp)] Le∧HoldG S [S1,S] S' [(B3,.cells [.int .i64 p,.int .i64 q,.int .i64 r,.int .i64 t] 51 false true [])] []) ?_ (m:=P.length) ⟨0,by omega,by omega,⟨rfl,rfl,rfl,rfl,rfl,rfl,rfl,trivial⟩,hl⟩
 clear hl;rintro m Le S' ⟨i,hi,rfl,hsub,hl⟩;refine xe_sub hsub ?_
 refine zg ?_
 constructor<;>intro h33
 ·
  have hlt:i<P.length:=by have:=of_decide_eq_true h33;omega
  obtain⟨c,hc⟩:=nth_some hlt
  obtain⟨b2,o2,cs2,ha,_,hrow,htk⟩:=hP.elem hc
  refine xp_skip rfl ?_;refine xp_seq rfl ?_;refine xp_block rfl ?_;refine xp_seq rfl (xe_toW hl 47 Value.bool ?_ rfl ?_)
  ·
   refine zg ?_;refine re_bool (d:=41) rfl (fun h41=>?_) (fun h41=>?_)
   ·
    refine zg ?_
    exact⟨rfl,⟨_,bl rfl⟩,sB,hl⟩
   refine zg ?_
   exact⟨rfl,⟨_,bl rfl⟩,sB,hl⟩
  clear ha hrow htk hl;intro q47 S1 hl
  refine zg ?_
  constructor<;>intro h47
  ·
   refine zg ?_
   exact blk_ret (thn_ret (round_ret (blk_ret ((z2 rfl rfl ⟨hl.keep,.inl ⟨_,by decide,rfl⟩⟩)))))
  refine zg ?_
  exact⟨P.length-(i+1),by omega,i+1,by omega,rfl,⟨rfl,rfl,rfl,rfl,rfl,rfl,rfl,trivial⟩,hl⟩
 clear hi hsub
 refine xp_exit rfl ?_;refine zS ?_;refine xp_seq rfl ?_;refine zS ?_;refine xp_block rfl ?_
 have hl:=hl.addG (g:=gT none []) (.inl ⟨rfl,rfl,rfl⟩)
 refine xe_sub (L':=[(12,.int .i64 0),(11,.slice none 0 0),(8,.slice ak K.length K.length),(7,.int .i64 0),(6,.slice none 0 0),(3,ptrTo B3 0),(1,.slice a C.length cap),(2,.slice ap P.length cp)]) ⟨rfl,rfl,rfl,rfl,rfl,rfl,rfl,rfl,trivial⟩ ?_
 refine xp_loop rfl (fun m Le S'=>∃(i:Nat) (av:Option Addr) (O:List Ti),i≤C.length∧m=C.length-i∧O.length=ndF C i∧SubE [(12,.int .i64 (i:Int)),(11,.slice av O.length O.length),(8,.slice ak K.length K.length),(7,.int .i64 0),(6,.slice none 0 0),(3,ptrTo B3 0),(1,.slice a C.length cap),(2,.slice ap P.length cp)] Le∧HoldG S [S1,S] S' [(B3,.cells [.int .i64 p,.int .i64 q,.int .i64 r,.int .i64 t] 51 false true [])] [gT av O]) ?_ (m:=C.length) ⟨0,none,[],by omega,by omega,rfl,⟨rfl,rfl,rfl,rfl,rfl,rfl,rfl,rfl,trivial⟩,hl⟩
 clear hl;rintro m Le S' ⟨i,av,O,hi,rfl,hO,hsub,hl⟩;refine xe_sub hsub ?_
 have hni:=nd_le (C:=C) i
 refine zg ?_
 constructor<;>intro h51
 ·
  have hlt:i<C.length:=by have:=of_decide_eq_true h51;omega
  obtain⟨s,hs⟩:=nth_some hlt
  obtain⟨b1,o1,cs1,ha,_,hrow,htk⟩:=hv.elem hs
  refine zg ?_
  constructor<;>intro h59
  ·
   have hk3:s.kind=3:=by simpa using h59
   refine zg ?_
   exact⟨C.length-(i+1),by omega,i+1,av,O,by omega,rfl,by rw[hO,nd_dot hs hk3],⟨rfl,rfl,rfl,rfl,rfl,rfl,rfl,rfl,trivial⟩,hl⟩
  have hk3:s.kind≠3:=by simpa using h59
  have hva:=chk_val hok hs hk3
  have hl:=hl.mark
  refine zg ?_;refine xp_draw (idx:=[0,1,2,3,4,5,10,6,7,8,9,11,12]) rfl (by kernel_rfl) (by kernel_rfl) ?_;refine zg ?_;refine rp_allocL hF hl rfl rfl rfl rfl rfl (z:=[.int .i64 0,.int .i64 0]) (by kernel_rfl) ?_;intro B13 S13 hl
  refine zp hl rfl (spec222 p q r t s.value (by omega)) ?_;rintro v S4 hk1 ⟨x,e,rfl⟩ hl;refine⟨zt,?_⟩
  refine zg ?_
  refine rp_storeL hl 0 rfl rfl rfl rfl rfl rfl rfl (by kernel_rfl) (c':=x.cells) rfl ?_;intro S5 hl;refine⟨zt,?_⟩
  clear ha hrow htk
  obtain⟨b1,o1,cs1,ha,_,hrow,htk⟩:=hv.elem hs
  refine zA ?_;refine xp_seq rfl (xe_cut (fun Le S'=>∃y:Ti,SubE [(13,ptrTo B13 0),(12,.int .i64 (i:Int)),(11,.slice av O.length O.length),(8,.slice ak K.length K.length),(7,.int .i64 0),(6,.slice none 0 0),(3,ptrTo B3 0),(1,.slice a C.length cap),(2,.slice ap P.length cp)] Le∧HoldG S [S1,S] S' [(B13,.cells y.cells 103 false true []),(B3,.cells [.int .i64 p,.int .i64 q,.int .i64 r,.int .i64 t] 51 false true [])] [gT av O]) ?_ ?_)
  ·
   refine zg ?_
   refine zc hl rfl (spec223 s) ?_;rintro v S6 hk1 ⟨Q,rfl⟩ hl
   refine zg ?_
   constructor<;>intro h74
   ·
    refine xp_draw (idx:=[0,1,2,3,4,5,6,7]) rfl (by kernel_rfl) (by kernel_rfl) ?_;refine zg ?_
    refine zp hl rfl (durAny p q r t 200 s.value (by omega) (by omega) _) ?_;rintro v S7 hk1 ⟨y,rfl⟩ hl;refine⟨zt,?_⟩
    refine rp_storeL hl 0 rfl rfl rfl rfl rfl rfl rfl (by kernel_rfl) (c':=y.cells) rfl ?_;intro S8 hl;refine⟨zt,?_⟩
    refine zg ?_
    exact⟨rfl,y,⟨rfl,rfl,rfl,rfl,rfl,rfl,rfl,rfl,rfl,trivial⟩,hl.marks (Us:=[S1,S]) (fun T hT=>List.mem_cons_of_mem _ hT)⟩
   refine zg ?_
   exact⟨rfl,x,⟨rfl,rfl,rfl,rfl,rfl,rfl,rfl,rfl,rfl,trivial⟩,hl.marks (Us:=[S1,S]) (fun T hT=>List.mem_cons_of_mem _ hT)⟩
  clear ha hrow htk hl hsub;rintro Le S6 ⟨y,hsub,hl⟩;refine xe_sub hsub ?_
  refine xp_seq rfl ?_;refine zS ?_;refine xp_block rfl ?_;refine xe_sub (L':=[(15,.int .i64 0),(13,ptrTo B13 0),(12,.int .i64 (i:Int)),(11,.slice av O.length O.length),(8,.slice ak K.length K.length),(7,.int .i64 0),(6,.slice none 0 0),(3,ptrTo B3 0),(1,.slice a C.length cap),(2,.slice ap P.length cp)]) ⟨rfl,rfl,rfl,rfl,rfl,rfl,rfl,rfl,rfl,rfl,trivial⟩ ?_
  refine xp_loop rfl (fun m Le S'=>∃(k:Nat) (y:Ti),k≤K.length∧m=K.length-k∧SubE [(15,.int .i64 (k:Int)),(13,ptrTo B13 0),(12,.int .i64 (i:Int)),(11,.slice av O.length O.length),(8,.slice ak K.length K.length),(7,.int .i64 0),(6,.slice none 0 0),(3,ptrTo B3 0),(1,.slice a C.length cap),(2,.slice ap P.length cp)] Le∧HoldG S [S1,S] S' [(B13,.cells y.cells 103 false true []),(B3,.cells [.int .i64 p,.int .i64 q,.int .i64 r,.int .i64 t] 51 false true [])] [gT av O]) ?_ (m:=K.length) ⟨0,y,by omega,by omega,⟨rfl,rfl,rfl,rfl,rfl,rfl,rfl,rfl,rfl,rfl,trivial⟩,hl⟩
  clear hl hsub;rintro m Le S' ⟨k,y,hk,rfl,hsub,hl⟩;refine xe_sub hsub ?_
  refine zg ?_
  constructor<;>intro h85
  ·
   have hlk:k<K.length:=by have:=of_decide_eq_true h85;omega
   obtain⟨c,hc⟩:=nth_some (show k<P.length by omega)
   obtain⟨d,hd2⟩:=nth_some hlk
   obtain⟨b2,o2,cs2,ha2,_,hrow2,htk2⟩:=hP.elem hc
   obtain⟨b3,o3,cs3,ha3,_,hrow3,htk3⟩:=(hK.move (hl.since 0 rfl)).elem hd2
   refine xp_skip rfl ?_;refine xp_seq rfl ?_;iterate 2 refine xp_block rfl ?_
   refine xp_seq rfl (xe_toW hl 88 Value.bool ?_ rfl ?_)
   ·
    refine zg ?_;refine re_bool (d:=94) rfl (fun h94=>?_) (fun h94=>?_)
    ·
     refine zg ?_
     exact⟨rfl,⟨_,bl rfl⟩,sB,hl⟩
    refine zg ?_
    exact⟨rfl,⟨_,bl rfl⟩,sB,hl⟩
   clear hl;intro q88 S7 hl
   refine zg ?_
   constructor<;>intro h88
   ·
    refine zg ?_;refine rr rfl (rd_build rfl rfl (v:=aggL (Ti.mk 3 2).cells) (by rfl)) ?_;refine re_storeL hl 0 rfl rfl rfl rfl rfl rfl rfl (by kernel_rfl) (c':=(Ti.mk 3 2).cells) rfl ?_
    intro S8 hl
    refine zg ?_
    exact⟨K.length-(k+1),by omega,k+1,_,by omega,rfl,⟨rfl,rfl,rfl,rfl,rfl,rfl,rfl,rfl,rfl,rfl,trivial⟩,hl⟩
   have hrow2:=hrow2
   refine xp_seq rfl (xe_toW hl 103 Value.bool ?_ rfl ?_)
   ·
    clear ha2 hrow2 htk2 ha3 hrow3 htk3
    obtain⟨b2,o2,cs2,ha2,_,hrow2,htk2⟩:=hP.elem hc
    obtain⟨b3,o3,cs3,ha3,_,hrow3,htk3⟩:=(hK.move (hl.since 0 rfl)).elem hd2
    refine zg ?_;refine re_bool (d:=109) rfl (fun h109=>?_) (fun h109=>?_)
    ·
     refine zg ?_
     exact⟨rfl,⟨_,bl rfl⟩,sB,hl⟩
    refine zg ?_
    exact⟨rfl,⟨_,bl rfl⟩,sB,hl⟩
   clear hl;intro q103 S8 hl
   refine zg ?_
   constructor<;>intro h103
   ·
    refine zg ?_;refine rr rfl (rd_build rfl rfl (v:=aggL (Ti.mk 1 2).cells) (by rfl)) ?_;refine re_storeL hl 0 rfl rfl rfl rfl rfl rfl rfl (by kernel_rfl) (c':=(Ti.mk 1 2).cells) rfl ?_
    intro S9 hl
    refine zg ?_
    exact⟨K.length-(k+1),by omega,k+1,_,by omega,rfl,⟨rfl,rfl,rfl,rfl,rfl,rfl,rfl,rfl,rfl,rfl,trivial⟩,hl⟩
   refine zg ?_
   exact⟨K.length-(k+1),by omega,k+1,_,by omega,rfl,⟨rfl,rfl,rfl,rfl,rfl,rfl,rfl,rfl,rfl,rfl,trivial⟩,hl⟩
  refine zg ?_;refine re_buildSliceR hl rfl rfl rfl rfl rfl Tryz.underlying91 rfl (c:=y.cells) (by kernel_rfl) ?_;intro B121 S7 hr121 hl;refine re_appendG hl 0 rfl rfl (by simp) rfl rfl rfl rfl rfl rfl rfl Tryz.underlying91 Tryz.underlying91 rfl rfl (by kernel_rfl) (src_row_ (n:=1) (cap:=1) hr121 rfl) rfl rfl (by kernel_rfl) (by show O.length+1≤maxNeed;unfold maxNeed;omega) ?_;intro v122 S8 hl
  obtain⟨av2,rfl⟩:∃x,v122= .slice x (O.length+1) (O.length+1):=Grow.is_ (hl.gr _ (List.mem_cons_self ..))
  have hl:HoldG S [S1,S] S8 _ [gT av2 (O++[y])]:=gT_ok hl
  refine zg ?_
  exact⟨C.length-(i+1),by omega,i+1,av2,_,by omega,rfl,by rw[len_push,nd_no hs hk3];omega,⟨rfl,by rw[len_push];rfl,rfl,rfl,rfl,rfl,rfl,rfl,trivial⟩,hl.tail⟩
 have hi2:i=C.length:=by have:=of_decide_eq_false h51;omega
 subst hi2
 refine zg ?_
 exact y2 rfl rfl ⟨hl.keep,.inr ⟨av,O,rfl,Grow.ls (f:=Ti.cells) (fun _=>rfl) (hl.gr _ (List.mem_cons_self ..)),hO⟩⟩
end Go.Proofs.YtmfphenhpkgidaaGreatDoor

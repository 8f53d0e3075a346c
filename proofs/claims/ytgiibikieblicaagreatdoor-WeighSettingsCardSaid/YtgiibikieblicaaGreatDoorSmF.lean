/-
  ref29: pitch, number. ref29: moves, perfect. ref29: motion. ref29: Find. ref29: Count. ref32: short, step. ref32: starts. ref32: passing, turning. ref32: chord. ref32: clash. ref32: suspended. ref32: treat. ref32: Made. ref32: All. ref32: Count.
-/
import Derived.Test.YtgiibikieblicaaGreatDoorSmE
namespace Go.Proofs.YtgiibikieblicaaGreatDoor
open Go.Cm Go
set_option maxRecDepth 100000
variable {S : St}
def rmvB (L : List Sl) (v n : Nat) : Bool := decide ((n : Int) < 1) || (evI L n v == evI L (n - 1) v)
def rsoB (V : List (List Ev)) (L : List Sl) (v n : Nat) : Bool := (!(snE V L v (n - 1)).2) || (!(snE V L v n).2)
def rmvP (V : List (List Ev)) (L : List Sl) (v n : Nat) : Int × Bool := bif rmvB L v n then (0, false) else bif rsoB V L v n then (0, false) else (mvN (snE V L v (n - 1)).1 (snE V L v n).1, true)
section
variable {V : List (List Ev)} {L : List Sl} {v n a b : Nat}
theorem rmv_1 (h : rmvB L v n = true) : rmvP V L v n = (0, false) := by unfold rmvP; rw [h]; rfl
theorem rmv_2 (h : rmvB L v n = false) (h2 : rsoB V L v n = true) : rmvP V L v n = (0, false) := by unfold rmvP; rw [h, h2]; rfl
theorem rmv_3 (h : rmvB L v n = false) (h2 : rsoB V L v n = false) : rmvP V L v n = (mvN (snE V L v (n - 1)).1 (snE V L v n).1, true) := by unfold rmvP; rw [h, h2]; rfl
def rpfE (V : List (List Ev)) (L : List Sl) (a b n : Nat) : Int := bif (pfE V L a b n).2 then (pfE V L a b n).1 else -1
theorem rpf_1 (h : ((kdE (snE V L a n).1.p (snE V L b n).1.p).1 != 1) = true) : rpfE V L a b n = -1 := by
 have h2 : (pfE V L a b n).2 = false := by unfold pfE; simpa using h
 unfold rpfE; rw [h2]; rfl
theorem rpf_2 (h : ((kdE (snE V L a n).1.p (snE V L b n).1.p).1 != 1) = false) : rpfE V L a b n = (spE (snE V L a n).1.p (snE V L b n).1.p).1.st := by
 have h2 : (pfE V L a b n).2 = true := by unfold pfE; simpa using h
 unfold rpfE; rw [h2]; rfl
end
noncomputable def cd55 : Code := Tryz.f55.body.getD .skip
theorem spec55 (aV aS : Option Addr) (cV cS : Nat) (V : List (List Ev)) (L : List Sl) (n : Nat) (s : Sl) (aw : Option Addr) (cw : Nat) (vv : Nat) (hs : SetAt S aV aS cV cS V L) (hsn : nth L n = some s) (hiv : Ints S (.slice aw s.ev.length cw) s.ev) (hvv : vv < V.length) : CC Tryz.prog KK 55 [.slice aV V.length cV, aggL [.int .i64 s.at_.n, .int .i64 s.at_.d, .int .i64 s.dur.n, .int .i64 s.dur.d, .slice aw s.ev.length cw], .int .i64 (vv : Int)] S (fun v S' => Keep S S' ∧ v = tupV [(snE V L vv n).1.p.v, .bool (snE V L vv n).2]) := by
 refine cc_enter (c := cd55) (n := 35) Tryz.func55 rfl rfl rfl (by kernel_rfl) rfl rfl ?_
 have hl := Hold.start S
 obtain ⟨x, hx⟩ := nth_some hvv
 obtain ⟨hwl, hwi⟩ := hs.wf n s hsn
 obtain ⟨i, hi⟩ := nth_some (l := s.ev) (i := vv) (by omega)
 obtain ⟨b2, o2, cs2, ha2, _, hrow2, htk2⟩ := hiv.elem hi
 obtain ⟨b3, o3, cs3, ax, cx, ha3, _, hrow3, htk3, hvx⟩ := hs.vs.elem hx
 have hix := hwi vv i x hi hx
 have hei := evI_at hsn hi
 refine zg ?_; refine re_boxL hl rfl rfl rfl rfl rfl rfl ?_; intro B4 S4 hl; refine re_allocL hl rfl rfl rfl rfl rfl (z := [.int .i64 0, .int .i64 0, .int .i64 0]) (by kernel_rfl) ?_; intro B6 S6 hl; refine zA ?_; refine zS ?_; refine xp_seq rfl ?_; refine xp_seq rfl (xe_toE hl 25 (.bool (snB V L vv n)) ?_ rfl ?_)
 ·
  refine zg ?_; refine re_bool (d := 16) rfl (fun h16 => ?_) (fun h16 => ?_)
  ·
   refine zg ?_
   exact ⟨rfl, bl (by unfold snB; rw [hei, h16]; rfl), sB, hl⟩
  ·
   have h0 : 0 ≤ i := by have := of_decide_eq_false h16; omega
   obtain ⟨y, hy⟩ := nth_some (l := x) (i := i.toNat) (by omega)
   obtain ⟨b4, o4, cs4, ha4, _, hrow4, htk4⟩ := hvx.elem hy
   have hey := evAt_at hx hy
   refine zg ?_
   exact ⟨rfl, bl (by unfold snB; rw [hei, h16, hey]; rfl), sB, hl⟩
 intro S1 hl
 refine zg ?_
 constructor <;> intro h25
 ·
  refine zg ?_; refine rr rfl (rd_build rfl rfl (v := aggL [.int .i64 0, .int .i64 0, .int .i64 0]) (by rfl)) ?_; refine re_storeL hl 0 rfl rfl rfl rfl rfl rfl rfl (by kernel_rfl) rfl ?_; intro S1 hl; refine zg ?_
  refine thn_ret (done_ret (ress_cell rfl (lN (z := 3) (hl.get 0 rfl) rfl) (ress_tmp rfl rfl)) ⟨hl.keep, by rw [sn_1 h25] <;> rfl⟩)
 ·
  have h0 : 0 ≤ i := by
   cases hd : decide (i < 0) with
   | true => unfold snB at h25; rw [hei, hd] at h25; cases h25
   | false => have := of_decide_eq_false hd; omega
  obtain ⟨y, hy⟩ := nth_some (l := x) (i := i.toNat) (by omega)
  obtain ⟨b4, o4, cs4, ha4, _, hrow4, htk4⟩ := hvx.elem hy
  have hey := evAt_at hx hy
  refine zg ?_; refine re_storeL hl 0 rfl rfl rfl rfl rfl rfl rfl (by kernel_rfl) rfl ?_; intro S1 hl; refine zg ?_
  refine done_ret (ress_cell rfl (lN (z := 3) (hl.get 0 rfl) rfl) (ress_tmp rfl rfl)) ⟨hl.keep, by rw [sn_2 h25, hei, hey] <;> rfl⟩
noncomputable def cd56 : Code := Tryz.f56.body.getD .skip
theorem spec56 (p : Pt) : CC Tryz.prog KK 56 [p.v] S (fun v S' => Keep S S' ∧ v = .int .i64 (numE p).1) := by
 refine cc_enter (c := cd56) (n := 11) Tryz.func56 rfl rfl rfl (by kernel_rfl) rfl rfl ?_
 have hl := Hold.start S
 refine zg ?_; refine re_boxL hl rfl rfl rfl rfl rfl rfl ?_; intro B1 S1 hl; refine zg ?_
 refine zc hl rfl (spec79 p) ?_; rintro v S1 hk1 rfl hl
 refine zg ?_
 refine y1 rfl ⟨hl.keep, rfl⟩
end Go.Proofs.YtgiibikieblicaaGreatDoor
namespace Go.Proofs.YtgiibikieblicaaGreatDoor
open Go.Cm Go
set_option maxRecDepth 100000
variable {S : St}
noncomputable def cd53 : Code := Tryz.f53.body.getD .skip
theorem spec53 (aV aS : Option Addr) (cV cS : Nat) (V : List (List Ev)) (L : List Sl) (vv n : Nat) (hs : SetAt S aV aS cV cS V L) (hvv : vv < V.length) (hnn : n < L.length) : CC Tryz.prog KK 53 [.slice aV V.length cV, .slice aS L.length cS, .int .i64 (vv : Int), .int .i64 (n : Int)] S (fun v S' => Keep S S' ∧ v = tupV [.int .i64 (rmvP V L vv n).1, .bool (rmvP V L vv n).2]) := by
 refine cc_enter (c := cd53) (n := 68) Tryz.func53 rfl rfl rfl (by kernel_rfl) rfl rfl ?_
 have hl := Hold.start S
 obtain ⟨s1, hsn1⟩ := nth_some (l := L) (i := n) (by omega)
 obtain ⟨b1, o1, cs1, aw1, cw1, ha1, _, hrow1, htk1, hiv1⟩ := hs.sl.elem hsn1
 obtain ⟨hwl1, hwi1⟩ := hs.wf _ s1 hsn1
 obtain ⟨ix1, hix1⟩ := nth_some (l := s1.ev) (i := vv) (by omega)
 obtain ⟨bx1, ox1, csx1, hax1, _, hrowx1, htkx1⟩ := hiv1.elem hix1
 have heix1 := evI_at hsn1 hix1
 have hL := hs.hL
 have hb1 := numE_bd (snE V L vv (n - 1)).1.p
 have hb2 := numE_bd (snE V L vv n).1.p
 refine zS ?_; refine xp_seq rfl ?_; refine xp_seq rfl (xe_toE hl 35 (.bool (rmvB L vv n)) ?_ rfl ?_)
 ·
  refine xp_draw (idx := [0, 1, 2, 3, 4, 5, 6, 7, 8, 9, 10, 11, 12, 13, 14, 15, 16, 17, 18, 19, 20, 21]) rfl (by kernel_rfl) (by kernel_rfl) ?_; refine zg ?_; refine rp_bool (d := 16) rfl (fun h16 => ?_) (fun h16 => ?_)
  ·
   refine zg ?_
   exact ⟨rfl, bl (by unfold rmvB; rw [h16]; rfl), sB, hl⟩
  ·
   have hn1 : 1 ≤ n := by have := of_decide_eq_false h16; omega
   obtain ⟨s0, hsn0⟩ := nth_some (l := L) (i := (n - 1)) (by omega)
   obtain ⟨b0, o0, cs0, aw0, cw0, ha0, _, hrow0, htk0, hiv0⟩ := hs.sl.elem hsn0
   obtain ⟨hwl0, hwi0⟩ := hs.wf _ s0 hsn0
   obtain ⟨ix0, hix0⟩ := nth_some (l := s0.ev) (i := vv) (by omega)
   obtain ⟨bx0, ox0, csx0, hax0, _, hrowx0, htkx0⟩ := hiv0.elem hix0
   have heix0 := evI_at hsn0 hix0
   iterate 2 refine pm rfl ?_
   refine pr rfl (rd_indexAddr rfl rfl rfl (indexAddr_sl (z := 5) ha1 Tryz.underlying71 (by kernel_rfl) ⟨by omega, by omega⟩)) ?_; refine pr rfl (rd_fieldAddr rfl rfl (fa Tryz.underlying110 az110 rfl)) ?_; refine pk rfl (rd_load rfl rfl (l2 (row_move (hl.since 0 rfl) hrow1) (tk_nth (j := 4) htk1 rfl))) ?_; refine pm rfl ?_; refine pr rfl (rd_indexAddr rfl rfl rfl (indexAddr_sl (z := 1) hax1 Tryz.underlying39 (by kernel_rfl) ⟨by omega, by omega⟩)) ?_; refine pk rfl (rd_load rfl rfl (l2 (row_move (hl.since 0 rfl) hrowx1) (tk_nth (j := 0) htkx1 rfl))) ?_; iterate 2 refine pm rfl ?_
   refine pr rfl (rd_bin rfl rfl rfl (congrArg some (congrArg (Value.int .i64) ((IntWalk.i64_in _ (by omega)).trans (show ((n : Int) - 1) = ((n - 1 : Nat) : Int) by omega))))) ?_; refine zg ?_
   exact ⟨rfl, bl (by unfold rmvB; rw [h16, heix1, heix0]; rfl), sB, hl⟩
 intro S1 hl
 refine zg ?_
 constructor <;> intro h35
 ·
  refine zg ?_
  exact (z2 rfl rfl ⟨hl.keep, by rw [rmv_1 h35] <;> rfl⟩)
 ·
  have hn1 : 1 ≤ n := by
   cases hd : decide ((n : Int) < 1) with
   | true => unfold rmvB at h35; rw [hd] at h35; cases h35
   | false => have := of_decide_eq_false hd; omega
  obtain ⟨s0, hsn0⟩ := nth_some (l := L) (i := (n - 1)) (by omega)
  obtain ⟨b0, o0, cs0, aw0, cw0, ha0, _, hrow0, htk0, hiv0⟩ := hs.sl.elem hsn0
  obtain ⟨hwl0, hwi0⟩ := hs.wf _ s0 hsn0
  refine xp_skip rfl ?_; refine xs (by kernel_rfl) ?_; iterate 3 refine rm rfl ?_
  refine rr rfl (rd_bin rfl rfl rfl (congrArg some (congrArg (Value.int .i64) ((IntWalk.i64_in _ (by omega)).trans (show ((n : Int) - 1) = ((n - 1 : Nat) : Int) by omega))))) ?_; refine zg ?_
  refine zc hl rfl (spec55 aV aS cV cS V L (n - 1) s0 aw0 cw0 vv (hs.move (hl.since 0 rfl)) hsn0 (hiv0.move (hl.since 0 rfl)) hvv) ?_; rintro v S1 hk1 rfl hl
  refine zg ?_; refine re_allocL hl rfl rfl rfl rfl rfl (z := [.int .i64 0, .int .i64 0, .int .i64 0]) (by kernel_rfl) ?_; intro B10 S10 hl; refine re_storeL hl 0 rfl rfl rfl rfl rfl rfl rfl (by kernel_rfl) rfl ?_; intro S1 hl; refine zg ?_
  refine zc hl rfl (spec55 aV aS cV cS V L n s1 aw1 cw1 vv (hs.move (hl.since 0 rfl)) hsn1 (hiv1.move (hl.since 0 rfl)) hvv) ?_; rintro v S1 hk1 rfl hl
  refine zg ?_; refine re_allocL hl rfl rfl rfl rfl rfl (z := [.int .i64 0, .int .i64 0, .int .i64 0]) (by kernel_rfl) ?_; intro B12 S12 hl; refine re_storeL hl 0 rfl rfl rfl rfl rfl rfl rfl (by kernel_rfl) rfl ?_; intro S1 hl; refine zA ?_; refine xp_seq rfl ?_; refine xp_seq rfl (xe_toE hl 62 (.bool (rsoB V L vv n)) ?_ rfl ?_)
  ·
   refine zg ?_; refine rr rfl (rd_un rfl rfl rfl) ?_; refine zg ?_; refine re_bool (d := 59) rfl (fun h59 => ?_) (fun h59 => ?_)
   ·
    refine zg ?_
    exact ⟨rfl, bl (by unfold rsoB; rw [h59]; rfl), sB, hl⟩
   ·
    refine zg ?_; refine rr rfl (rd_un rfl rfl rfl) ?_; refine zg ?_
    exact ⟨rfl, bl (by unfold rsoB; rw [h59]; rfl), sB, hl⟩
  intro S1 hl
  refine zg ?_
  constructor <;> intro h62
  ·
   refine zg ?_
   exact (z2 rfl rfl ⟨hl.keep, by rw [rmv_2 h35 h62] <;> rfl⟩)
  ·
   refine zg ?_; refine xp_draw (idx := [0, 2, 1, 3, 4, 5, 6]) rfl (by kernel_rfl) (by kernel_rfl) ?_; refine zg ?_
   refine zp hl rfl (spec56 (snE V L vv n).1.p) ?_; rintro v S1 hk1 rfl hl; refine ⟨zt, ?_⟩
   refine zp hl rfl (spec56 (snE V L vv (n - 1)).1.p) ?_; rintro v S1 hk1 rfl hl; refine ⟨zt, ?_⟩
   refine zg ?_
   refine y2 rfl rfl ⟨hl.keep, by rw [rmv_3 h35 h62] <;> rfl⟩
noncomputable def cd54 : Code := Tryz.f54.body.getD .skip
theorem spec54 (aV aS : Option Addr) (cV cS : Nat) (V : List (List Ev)) (L : List Sl) (n : Nat) (s : Sl) (aw : Option Addr) (cw : Nat) (a b : Nat) (hF : Fresh S) (hs : SetAt S aV aS cV cS V L) (hsn : nth L n = some s) (hiv : Ints S (.slice aw s.ev.length cw) s.ev) (ha : a < V.length) (hb : b < V.length) : CC Tryz.prog KK 54 [.slice aV V.length cV, aggL [.int .i64 s.at_.n, .int .i64 s.at_.d, .int .i64 s.dur.n, .int .i64 s.dur.d, .slice aw s.ev.length cw], .int .i64 (a : Int), .int .i64 (b : Int)] S (fun v S' => Keep S S' ∧ v = .int .i64 (rpfE V L a b n)) := by
 refine cc_enter (c := cd54) (n := 47) Tryz.func54 rfl rfl rfl (by kernel_rfl) rfl rfl ?_
 have hl := Hold.start S
 refine zg ?_; refine re_boxL hl rfl rfl rfl rfl rfl rfl ?_; intro B5 S5 hl; refine zg ?_
 refine zc hl rfl (spec55 aV aS cV cS V L n s aw cw a (hs.move (hl.since 0 rfl)) hsn (hiv.move (hl.since 0 rfl)) ha) ?_; rintro v S1 hk1 rfl hl
 refine zg ?_; refine re_allocL hl rfl rfl rfl rfl rfl (z := [.int .i64 0, .int .i64 0, .int .i64 0]) (by kernel_rfl) ?_; intro B9 S9 hl; refine re_storeL hl 0 rfl rfl rfl rfl rfl rfl rfl (by kernel_rfl) rfl ?_; intro S1 hl; refine zg ?_
 refine zc hl rfl (spec55 aV aS cV cS V L n s aw cw b (hs.move (hl.since 0 rfl)) hsn (hiv.move (hl.since 0 rfl)) hb) ?_; rintro v S1 hk1 rfl hl
 refine zg ?_; refine re_allocL hl rfl rfl rfl rfl rfl (z := [.int .i64 0, .int .i64 0, .int .i64 0]) (by kernel_rfl) ?_; intro B11 S11 hl; refine re_storeL hl 0 rfl rfl rfl rfl rfl rfl rfl (by kernel_rfl) rfl ?_; intro S1 hl; refine zg ?_
 refine zc hl rfl (spec77 (snE V L a n).1.p (snE V L b n).1.p (hl.keep.3 hF)) ?_; rintro v S1 hk1 rfl hl
 refine zg ?_
 refine zc hl rfl (spec78 (snE V L a n).1.p (snE V L b n).1.p (hl.keep.3 hF)) ?_; rintro v S1 hk1 rfl hl
 refine zg ?_; refine re_allocL hl rfl rfl rfl rfl rfl (z := [.int .i64 0, .int .i64 0]) (by kernel_rfl) ?_; intro B15 S15 hl; refine re_storeL hl 0 rfl rfl rfl rfl rfl rfl rfl (by kernel_rfl) rfl ?_; intro S1 hl; refine zg ?_
 constructor <;> intro h44
 ·
  refine zg ?_
  exact (z1 rfl ⟨hl.keep, congrArg (Value.int .i64) (rpf_1 h44).symm⟩)
 ·
  refine zg ?_
  refine y1 rfl ⟨hl.keep, congrArg (Value.int .i64) (rpf_2 h44).symm⟩
end Go.Proofs.YtgiibikieblicaaGreatDoor
namespace Go.Proofs.YtgiibikieblicaaGreatDoor
open Go.Cm Go
set_option maxRecDepth 100000
variable {S : St}
def roB (x y : Int × Bool) : Bool := (((!x.2) || (!y.2)) || (x.1 == 0)) || (y.1 == 0)
def rtB (x y : Int × Bool) : Bool := decide (x.1 > 0) == decide (y.1 > 0)
def ruI (x y : Int × Bool) (u : Bool) : Int := bif u then x.1 else y.1
def rhB (x y : Int × Bool) (u : Bool) : Bool := rtB x y && (decide (ruI x y u > 1) || decide (ruI x y u < -1))
def rkG (x y : Int × Bool) (p q : Int) (u : Bool) : Int × Int := bif roB x y then (0, 0) else bif decide (p < 0) then (0, 0) else bif (q == p) && rtB x y then (1, p) else bif q == p then (3, p) else bif rhB x y u then (2, p) else (0, 0)
section
variable {x y : Int × Bool} {p q : Int} {u : Bool}
theorem rk_1 (h : roB x y = true) : rkG x y p q u = (0, 0) := by unfold rkG; rw [h]; rfl
theorem rk_2 (h : roB x y = false) (h2 : decide (p < 0) = true) : rkG x y p q u = (0, 0) := by unfold rkG; rw [h, h2]; rfl
theorem rk_3 (h : roB x y = false) (h2 : decide (p < 0) = false) (h3 : ((q == p) && rtB x y) = true) : rkG x y p q u = (1, p) := by unfold rkG; rw [h, h2, h3]; rfl
theorem rk_4 (h : roB x y = false) (h2 : decide (p < 0) = false) (h3 : ((q == p) && rtB x y) = false) (h4 : (q == p) = true) : rkG x y p q u = (3, p) := by unfold rkG; rw [h, h2, h3, h4]; rfl
theorem rk_5 (h : roB x y = false) (h2 : decide (p < 0) = false) (h3 : ((q == p) && rtB x y) = false) (h4 : (q == p) = false) (h5 : rhB x y u = true) : rkG x y p q u = (2, p) := by unfold rkG; rw [h, h2, h3, h4, h5]; rfl
theorem rk_6 (h : roB x y = false) (h2 : decide (p < 0) = false) (h3 : ((q == p) && rtB x y) = false) (h4 : (q == p) = false) (h5 : rhB x y u = false) : rkG x y p q u = (0, 0) := by unfold rkG; rw [h, h2, h3, h4, h5]; rfl
end
section
variable {V : List (List Ev)} {L : List Sl} {a b n : Nat}
def rnB (V : List (List Ev)) (L : List Sl) (a b n : Nat) : Bool := decide ((numE (snE V L a n).1.p).1 > (numE (snE V L b n).1.p).1)
def rkmE (V : List (List Ev)) (L : List Sl) (a b n : Nat) : Int × Int := rkG (rmvP V L a n) (rmvP V L b n) (rpfE V L a b n) (rpfE V L a b (n - 1)) (rnB V L a b n)
theorem ro_pos (h : roB (rmvP V L a n) (rmvP V L b n) = false) : 1 ≤ n := by
 rcases Nat.eq_zero_or_pos n with h0 | h0
 ·subst h0
  have e : rmvP V L a 0 = (0, false) := rmv_1 rfl
  rw [e] at h
  cases h
 ·exact h0
theorem sp_nn (p q : Pt) : 0 ≤ (spE p q).1.st := by
 cases h : (spE p q).2 != 0 with
 | false => exact (sp_bd h).1
 | true =>
  cases h2 : (bwE p q).2 != 0 with
  | true => rw [sp_1 h2]; exact Int.le_refl _
  | false => rw [sp_2 h2] at h; cases h
theorem sgn_pos {x : Int} (hx : x ≠ 0) : sgn x = bif decide (x > 0) then 1 else -1 := by
 unfold sgn
 rcases Int.lt_trichotomy x 0 with h | h | h
 ·rw [decide_eq_true h, decide_eq_false (by omega)]; rfl
 ·exact absurd h hx
 ·rw [decide_eq_false (by omega : ¬ x < 0), decide_eq_true h]; rfl
theorem rkm_eq (ha : rmvP V L a n = mvP V L a n) (hb : rmvP V L b n = mvP V L b n) : rkmE V L a b n = kmE V L a b n := by
 unfold rkmE
 rw [ha, hb]
 have ho : roB (mvP V L a n) (mvP V L b n) = kmB V L a b n := by
  unfold roB kmB
  generalize mvP V L a n = x
  generalize mvP V L b n = y
  cases x.2 with
  | false => rfl
  | true =>
   cases y.2 with
   | false => rfl
   | true =>
    show ((x.1 == 0) || (y.1 == 0)) = (sgn x.1 * sgn y.1 == 0)
    by_cases hx : x.1 = 0
    ·rw [hx]; simp [show sgn 0 = 0 from rfl]
    ·by_cases hy : y.1 = 0
     ·rw [hy]; simp [show sgn 0 = 0 from rfl]
     ·rw [sgn_pos hx, sgn_pos hy, beq_eq_false_iff_ne.2 hx, beq_eq_false_iff_ne.2 hy]
      cases decide (x.1 > 0) <;> cases decide (y.1 > 0) <;> rfl
 cases hk : kmB V L a b n with
 | true => rw [rk_1 (ho.trans hk), km_1 hk]
 | false =>
  rw [hk] at ho
  have hxy : (mvP V L a n).1 ≠ 0 ∧ (mvP V L b n).1 ≠ 0 := by
   have := ho
   unfold roB at this
   simp only [Bool.or_eq_false_iff, beq_eq_false_iff_ne] at this
   exact ⟨this.1.2, this.2⟩
  have ht : rtB (mvP V L a n) (mvP V L b n) = tgB V L a b n := by
   unfold rtB tgB
   rw [sgn_pos hxy.1, sgn_pos hxy.2]
   cases decide ((mvP V L a n).1 > 0) <;> cases decide ((mvP V L b n).1 > 0) <;> rfl
  have hnn : 0 ≤ (pfE V L a b n).1 := sp_nn _ _
  cases hp : (pfE V L a b n).2 with
  | false =>
   have e : rpfE V L a b n = -1 := by unfold rpfE; rw [hp]; rfl
   rw [e, rk_2 ho rfl, km_2 hk (by rw [hp]; rfl)]
  | true =>
   have e : rpfE V L a b n = (pfE V L a b n).1 := by unfold rpfE; rw [hp]; rfl
   have h2 : decide ((pfE V L a b n).1 < 0) = false := decide_eq_false (by omega)
   have h2' : (!(pfE V L a b n).2) = false := by rw [hp]; rfl
   have hq : (rpfE V L a b (n - 1) == (pfE V L a b n).1) = agB V L a b n := by
    unfold rpfE agB
    cases (pfE V L a b (n - 1)).2 with
    | true => rfl
    | false => show ((-1 : Int) == _) = false; simp; omega
   have hh : rhB (mvP V L a n) (mvP V L b n) (rnB V L a b n) = hdB V L a b n := by
    unfold rhB hdB
    rw [ht]
    rfl
   rw [e]
   cases h4 : agB V L a b n with
   | true =>
    cases h5 : tgB V L a b n with
    | true => rw [rk_3 ho h2 (by rw [hq, ht, h4, h5]; rfl), km_3 hk h2' (by rw [h4, h5]; rfl)]
    | false => rw [rk_4 ho h2 (by rw [hq, ht, h4, h5]; rfl) (by rw [hq, h4]), km_4 hk h2' (by rw [h4, h5]; rfl) h4]
   | false =>
    cases h6 : hdB V L a b n with
    | true => rw [rk_5 ho h2 (by rw [hq, h4]; rfl) (by rw [hq, h4]) (by rw [hh, h6]), km_5 hk h2' (by rw [h4]; cases tgB V L a b n <;> rfl) h4 h6]
    | false => rw [rk_6 ho h2 (by rw [hq, h4]; rfl) (by rw [hq, h4]) (by rw [hh, h6]), km_6 hk h2' (by rw [h4]; cases tgB V L a b n <;> rfl) h4 h6]
end
noncomputable def cd37 : Code := Tryz.f37.body.getD .skip
theorem spec37 (aV aS : Option Addr) (cV cS : Nat) (V : List (List Ev)) (L : List Sl) (a b n : Nat) (hF : Fresh S) (hs : SetAt S aV aS cV cS V L) (ha : a < V.length) (hb : b < V.length) (hnn : n < L.length) : CC Tryz.prog KK 37 [.slice aV V.length cV, .slice aS L.length cS, .int .i64 (a : Int), .int .i64 (b : Int), .int .i64 (n : Int)] S (fun v S' => Keep S S' ∧ v = tupV [.int .i64 (rkmE V L a b n).1, .int .i64 (rkmE V L a b n).2]) := by
 refine cc_enter (c := cd37) (n := 124) Tryz.func37 rfl rfl rfl (by kernel_rfl) rfl rfl ?_
 have hl := Hold.start S
 obtain ⟨s1, hsn1⟩ := nth_some (l := L) (i := n) (by omega)
 obtain ⟨b1, o1, cs1, aw1, cw1, ha1, _, hrow1, htk1, hiv1⟩ := hs.sl.elem hsn1
 obtain ⟨hwl1, hwi1⟩ := hs.wf _ s1 hsn1
 have hL := hs.hL
 refine zg ?_
 refine zc hl rfl (spec53 aV aS cV cS V L a n (hs.move (hl.since 0 rfl)) ha hnn) ?_; rintro v S1 hk1 rfl hl
 refine zg ?_
 refine zc hl rfl (spec53 aV aS cV cS V L b n (hs.move (hl.since 0 rfl)) hb hnn) ?_; rintro v S1 hk1 rfl hl
 refine zA ?_; refine xp_seq rfl ?_; refine xp_seq rfl (xe_toE hl 53 (.bool (roB (rmvP V L a n) (rmvP V L b n))) ?_ rfl ?_)
 ·
  refine zg ?_; refine rr rfl (rd_un rfl rfl rfl) ?_; refine zg ?_; refine re_bool (d := 42) rfl (fun h42 => ?_) (fun h42 => ?_)
  ·
   refine zg ?_
   exact ⟨rfl, bl (by unfold roB; rw [h42]; rfl), sB, hl⟩
  ·
   refine zg ?_; refine rr rfl (rd_un rfl rfl rfl) ?_; refine zg ?_; refine re_bool (d := 46) rfl (fun h46 => ?_) (fun h46 => ?_)
   ·
    refine zg ?_
    exact ⟨rfl, bl (by unfold roB; rw [h42, h46]; rfl), sB, hl⟩
   ·
    refine zg ?_; refine re_bool (d := 50) rfl (fun h50 => ?_) (fun h50 => ?_)
    ·
     refine zg ?_
     exact ⟨rfl, bl (by unfold roB; rw [h42, h46, h50]; rfl), sB, hl⟩
    ·
     refine zg ?_
     exact ⟨rfl, bl (by unfold roB; rw [h42, h46, h50]; rfl), sB, hl⟩
 intro S1 hl
 refine zg ?_
 constructor <;> intro h53
 ·
  refine zg ?_
  exact (z2 rfl rfl ⟨hl.keep, by unfold rkmE; rw [rk_1 h53] <;> rfl⟩)
 ·
  have hn1 := ro_pos h53
  obtain ⟨s0, hsn0⟩ := nth_some (l := L) (i := (n - 1)) (by omega)
  obtain ⟨b0, o0, cs0, aw0, cw0, ha0, _, hrow0, htk0, hiv0⟩ := hs.sl.elem hsn0
  obtain ⟨hwl0, hwi0⟩ := hs.wf _ s0 hsn0
  refine zg ?_
  refine zc hl rfl (spec54 aV aS cV cS V L n s1 aw1 cw1 a b (hl.keep.3 hF) (hs.move (hl.since 0 rfl)) hsn1 (hiv1.move (hl.since 0 rfl)) ha hb) ?_; rintro v S1 hk1 rfl hl
  refine zg ?_
  constructor <;> intro h63
  ·
   refine zg ?_
   exact (z2 rfl rfl ⟨hl.keep, by unfold rkmE; rw [rk_2 h53 h63] <;> rfl⟩)
  ·
   refine xp_skip rfl ?_; refine xs (by kernel_rfl) ?_; iterate 3 refine rm rfl ?_
   refine rr rfl (rd_bin rfl rfl rfl (congrArg some (congrArg (Value.int .i64) ((IntWalk.i64_in _ (by omega)).trans (show ((n : Int) - 1) = ((n - 1 : Nat) : Int) by omega))))) ?_; refine zg ?_
   refine zc hl rfl (spec54 aV aS cV cS V L (n - 1) s0 aw0 cw0 a b (hl.keep.3 hF) (hs.move (hl.since 0 rfl)) hsn0 (hiv0.move (hl.since 0 rfl)) ha hb) ?_; rintro v S1 hk1 rfl hl
   refine zA ?_; refine zS ?_; refine xp_seq rfl ?_; refine xp_seq rfl (xe_toE hl 83 (.bool ((rpfE V L a b (n - 1) == rpfE V L a b n) && rtB (rmvP V L a n) (rmvP V L b n))) ?_ rfl ?_)
   ·
    refine zg ?_; refine re_bool (d := 81) rfl (fun h81 => ?_) (fun h81 => ?_)
    ·
     refine zg ?_
     exact ⟨rfl, bl (by rw [h81]; rfl), sB, hl⟩
    ·
     refine zg ?_
     exact ⟨rfl, bl (by rw [h81]; rfl), sB, hl⟩
   intro S1 hl
   refine zg ?_
   constructor <;> intro h83
   ·
    refine zg ?_
    exact (z2 rfl rfl ⟨hl.keep, by unfold rkmE; rw [rk_3 h53 h63 h83] <;> rfl⟩)
   ·
    refine zg ?_
    constructor <;> intro h85
    ·
     refine zg ?_
     exact (z2 rfl rfl ⟨hl.keep, by unfold rkmE; rw [rk_4 h53 h63 h83 h85] <;> rfl⟩)
    ·
     refine zg ?_
     refine zc hl rfl (spec55 aV aS cV cS V L n s1 aw1 cw1 a (hs.move (hl.since 0 rfl)) hsn1 (hiv1.move (hl.since 0 rfl)) ha) ?_; rintro v S1 hk1 rfl hl
     refine zg ?_; refine re_allocL hl rfl rfl rfl rfl rfl (z := [.int .i64 0, .int .i64 0, .int .i64 0]) (by kernel_rfl) ?_; intro B19 S19 hl; refine re_storeL hl 0 rfl rfl rfl rfl rfl rfl rfl (by kernel_rfl) rfl ?_; intro S1 hl; refine zg ?_
     refine zc hl rfl (spec55 aV aS cV cS V L n s1 aw1 cw1 b (hs.move (hl.since 0 rfl)) hsn1 (hiv1.move (hl.since 0 rfl)) hb) ?_; rintro v S1 hk1 rfl hl
     refine zg ?_; refine re_allocL hl rfl rfl rfl rfl rfl (z := [.int .i64 0, .int .i64 0, .int .i64 0]) (by kernel_rfl) ?_; intro B21 S21 hl; refine re_storeL hl 0 rfl rfl rfl rfl rfl rfl rfl (by kernel_rfl) rfl ?_; intro S1 hl; refine zA ?_; refine zS ?_; refine xp_seq rfl (xe_cut (fun Le S' => SubE [(23, .int .i64 (ruI (rmvP V L a n) (rmvP V L b n) (rnB V L a b n))), (18, .bool (rtB (rmvP V L a n) (rmvP V L b n))), (16, .int .i64 (rpfE V L a b n)), (11, .int .i64 0), (10, .int .i64 0)] Le ∧ HoldG S [S] S' [] []) ?_ ?_)
     ·
      refine zg ?_; refine xp_draw (idx := [0, 2, 1, 3, 4]) rfl (by kernel_rfl) (by kernel_rfl) ?_; refine zg ?_
      refine zp hl rfl (spec56 (snE V L a n).1.p) ?_; rintro v S1 hk1 rfl hl; refine ⟨zt, ?_⟩
      refine zp hl rfl (spec56 (snE V L b n).1.p) ?_; rintro v S1 hk1 rfl hl; refine ⟨zt, ?_⟩
      refine zg ?_
      constructor <;> intro h112
      ·
       refine zg ?_
       exact ⟨rfl, ⟨congrArg some (congrArg (Value.int .i64) (by unfold ruI rnB; rw [h112]; rfl)), rfl, rfl, rfl, rfl, trivial⟩, hl.tail.tail⟩
      ·
       refine zg ?_
       exact ⟨rfl, ⟨congrArg some (congrArg (Value.int .i64) (by unfold ruI rnB; rw [h112]; rfl)), rfl, rfl, rfl, rfl, trivial⟩, hl.tail.tail⟩
     clear hl; rintro Le3 S1 ⟨hsub3, hl⟩; refine xe_sub hsub3 ?_
     refine xp_seq rfl ?_; refine xp_seq rfl (xe_toE hl 122 (.bool (rhB (rmvP V L a n) (rmvP V L b n) (rnB V L a b n))) ?_ rfl ?_)
     ·
      refine zg ?_; refine re_bool (d := 115) rfl (fun h115 => ?_) (fun h115 => ?_)
      ·
       refine zg ?_; refine re_bool (d := 118) rfl (fun h118 => ?_) (fun h118 => ?_)
       ·
        refine zg ?_
        exact ⟨rfl, bl (by unfold rhB; rw [h115, h118]; rfl), sB, hl⟩
       ·
        refine zg ?_
        exact ⟨rfl, bl (by unfold rhB; rw [h115, h118]; rfl), sB, hl⟩
      ·
       refine zg ?_
       exact ⟨rfl, bl (by unfold rhB; rw [h115]; rfl), sB, hl⟩
     intro S1 hl
     refine zg ?_
     constructor <;> intro h122
     ·
      refine zg ?_
      exact (z2 rfl rfl ⟨hl.keep, by unfold rkmE; rw [rk_5 h53 h63 h83 h85 h122] <;> rfl⟩)
     ·
      refine zg ?_
      refine y2 rfl rfl ⟨hl.keep, by unfold rkmE; rw [rk_6 h53 h63 h83 h85 h122] <;> rfl⟩
end Go.Proofs.YtgiibikieblicaaGreatDoor
namespace Go.Proofs.YtgiibikieblicaaGreatDoor
open Go.Cm Go
set_option maxRecDepth 100000
variable {S : St}
theorem km_zero {V : List (List Ev)} {L : List Sl} {a b : Nat} : kmE V L a b 0 = (0, 0) := km_1 (by
 unfold kmB
 rw [show mvP V L a 0 = (0, false) from mvP_1 rfl]
 rfl)
theorem prB_zero {V : List (List Ev)} {L : List Sl} {a : Nat} : ∀ f b, prB V L 0 a f b = []
 | 0, _ => rfl
 | f + 1, b => by rw [prB, prB_zero f (b + 1), prI_2 (by rw [km_zero]; rfl)]; rfl
theorem prA_zero {V : List (List Ev)} {L : List Sl} : ∀ f a, prA V L 0 f a = []
 | 0, _ => rfl
 | f + 1, a => by rw [prA, prB_zero, prA_zero f (a + 1)]; rfl
theorem fnG_one {V : List (List Ev)} {L : List Sl} : ∀ f, fnG V L f 0 = fnG V L (f - 1) 1
 | 0 => rfl
 | f + 1 => by rw [fnG, prA_zero]; rfl
theorem fnG_step {V : List (List Ev)} {L : List Sl} {n k : Nat} (h : n < k) : fnG V L (k - n) n = prA V L n V.length 0 ++ fnG V L (k - (n + 1)) (n + 1) := by
 rw [show k - n = (k - (n + 1)) + 1 by omega]; rfl
theorem prA_step {V : List (List Ev)} {L : List Sl} {n a k : Nat} (h : a < k) : prA V L n (k - a) a = prB V L n a (V.length - (a + 1)) (a + 1) ++ prA V L n (k - (a + 1)) (a + 1) := by
 rw [show k - a = (k - (a + 1)) + 1 by omega]; rfl
theorem prB_step {V : List (List Ev)} {L : List Sl} {n a b k : Nat} (h : b < k) : prB V L n a (k - b) b = prI V L n a b ++ prB V L n a (k - (b + 1)) (b + 1) := by
 rw [show k - b = (k - (b + 1)) + 1 by omega]; rfl
theorem fnr_end {S S' : St} {V : List (List Ev)} {a : Option Addr} {O : List Par} (h : ((slsE V).2 != 0) = false) (he : O = fnG V (slsE V).1 ((slsE V).1.length - 1) 1) (hg : Grow S S' (gOf 61 5 Par.cells (.slice a O.length O.length) O)) : ∃ av, (tupV [.slice a O.length O.length, .int .i64 0] : Value) = tupV [.slice av (fnE V).1.length (fnE V).1.length, .int .i64 (fnE V).2] ∧ Grow S S' (gOf 61 5 Par.cells (.slice av (fnE V).1.length (fnE V).1.length) (fnE V).1) := by
 rw [fn_2 h, fnG_one, ← he]
 exact ⟨a, rfl, hg⟩
noncomputable def cd26 : Code := Tryz.f26.body.getD .skip
theorem spec26 (a0 : Option Addr) (cap : Nat) (V : List (List Ev)) (hF : Fresh S) (hv : Vs S (.slice a0 V.length cap) V) (hq : ∀ v n, v < V.length → n < (slsE V).1.length → rmvP V (slsE V).1 v n = mvP V (slsE V).1 v n) : CC Tryz.prog KK 26 [.slice a0 V.length cap] S (fun v S' => Keep S S' ∧ ∃ av, v = tupV [.slice av (fnE V).1.length (fnE V).1.length, .int .i64 (fnE V).2] ∧ Grow S S' (gOf 61 5 Par.cells (.slice av (fnE V).1.length (fnE V).1.length) (fnE V).1)) := by
 refine cc_enter (c := cd26) (n := 61) Tryz.func26 rfl rfl rfl (by kernel_rfl) rfl rfl ?_
 have hl := Hold.start S
 refine zg ?_
 refine zc hl rfl (spec36 a0 cap V (hl.keep.3 hF) (hv.move (hl.since 0 rfl))) ?_; rintro v T1 hk1 ⟨w, rfl, hsl⟩ hl; have hl := hl.mark; obtain ⟨aS, cS, rfl⟩ := Sls.is hsl; have hvT := hv.move (hl.since 1 rfl)
 refine zg ?_
 constructor <;> intro h18
 ·
  refine zg ?_
  exact (z2 rfl rfl ⟨hl.keep, ⟨none, by rw [fn_1 h18] <;> rfl, by rw [fn_1 h18]; exact .inl ⟨rfl, rfl, rfl⟩⟩⟩)
 ·
  obtain ⟨hn, hV⟩ := ac_ok (sls_e h18)
  have hL := sls_len hn hV
  have hs : SetAt T1 a0 aS cap cS V (slsE V).1 := ⟨hvT, hsl, sls_wf, hn, hV, hL⟩
  refine xp_skip rfl ?_; refine zS ?_; refine xp_seq rfl ?_; refine zS ?_; refine xp_block rfl ?_
  -- LOOP
  have hl := hl.addG (g := gOf 61 5 Par.cells (.slice none ([] : List Par).length ([] : List Par).length) ([] : List Par)) (.inl ⟨rfl, rfl, rfl⟩)
  refine xe_sub (L' := [(7, .int .i64 1), (6, .slice none ([] : List Par).length ([] : List Par).length), (4, .slice aS (slsE V).1.length cS), (3, .int .i64 0), (2, .slice none 0 0), (0, .slice a0 V.length cap)]) ⟨rfl, rfl, rfl, rfl, rfl, rfl, trivial⟩ ?_
  refine xp_loop rfl (fun m Le S' => ∃ (n : Nat) (O : List Par) (ao : Option Addr), 1 ≤ n ∧ m = (slsE V).1.length - n ∧ O.length ≤ 64 * n ∧ O ++ fnG V (slsE V).1 ((slsE V).1.length - n) n = fnG V (slsE V).1 ((slsE V).1.length - 1) 1 ∧ SubE [(7, .int .i64 (n : Int)), (6, .slice ao O.length O.length), (4, .slice aS (slsE V).1.length cS), (3, .int .i64 0), (2, .slice none 0 0), (0, .slice a0 V.length cap)] Le ∧ HoldG S [T1, S] S' [] [gOf 61 5 Par.cells (.slice ao O.length O.length) O]) ?_ (m := (slsE V).1.length - 1) ⟨1, [], none, by omega, rfl, Nat.zero_le _, rfl, ⟨rfl, rfl, rfl, rfl, rfl, rfl, trivial⟩, hl⟩
  clear hl; rintro m Le S' ⟨n, O, ao, hn1, rfl, hO, hpr, hsub, hl⟩; refine xe_sub hsub ?_
  refine zg ?_
  constructor <;> intro h23
  ·
   have hnn : n < (slsE V).1.length := by have := of_decide_eq_true h23; omega
   rw [fnG_step hnn] at hpr
   refine xp_skip rfl ?_; refine xp_seq rfl ?_; refine xp_block rfl ?_; refine zS ?_; refine xp_block rfl ?_
   -- LOOP
   refine xe_sub (L' := [(8, .int .i64 0), (7, .int .i64 (n : Int)), (6, .slice ao O.length O.length), (4, .slice aS (slsE V).1.length cS), (3, .int .i64 0), (2, .slice none 0 0), (0, .slice a0 V.length cap)]) ⟨rfl, rfl, rfl, rfl, rfl, rfl, rfl, trivial⟩ ?_
   refine xp_loop rfl (fun m Le S' => ∃ (a : Nat) (O2 : List Par) (a2 : Option Addr), a ≤ V.length ∧ m = V.length - a ∧ O2.length ≤ 64 * n + 8 * a ∧ O2 ++ prA V (slsE V).1 n (V.length - a) a = O ++ prA V (slsE V).1 n V.length 0 ∧ SubE [(8, .int .i64 (a : Int)), (7, .int .i64 (n : Int)), (6, .slice a2 O2.length O2.length), (4, .slice aS (slsE V).1.length cS), (3, .int .i64 0), (2, .slice none 0 0), (0, .slice a0 V.length cap)] Le ∧ HoldG S [T1, S] S' [] [gOf 61 5 Par.cells (.slice a2 O2.length O2.length) O2]) ?_ (m := V.length) ⟨0, O, ao, by omega, rfl, by omega, rfl, ⟨rfl, rfl, rfl, rfl, rfl, rfl, rfl, trivial⟩, hl⟩
   clear hl; rintro m Le S' ⟨a, O2, a2, ha, rfl, hO2, hpr2, hsub2, hl⟩; refine xe_sub hsub2 ?_
   refine zg ?_
   constructor <;> intro h29
   ·
    have hav : a < V.length := by have := of_decide_eq_true h29; omega
    rw [prA_step hav] at hpr2
    refine xp_skip rfl ?_; refine xp_seq rfl ?_; refine xp_block rfl ?_; refine zS ?_; refine xp_block rfl ?_
    -- LOOP
    refine xe_sub (L' := [(9, .int .i64 ((a : Int) + 1)), (8, .int .i64 (a : Int)), (7, .int .i64 (n : Int)), (6, .slice a2 O2.length O2.length), (4, .slice aS (slsE V).1.length cS), (3, .int .i64 0), (2, .slice none 0 0), (0, .slice a0 V.length cap)]) ⟨rfl, rfl, rfl, rfl, rfl, rfl, rfl, rfl, trivial⟩ ?_
    refine xp_loop rfl (fun m Le S' => ∃ (b : Nat) (O3 : List Par) (a3 : Option Addr), a + 1 ≤ b ∧ b ≤ V.length ∧ m = V.length - b ∧ O3.length ≤ 64 * n + 8 * a + b ∧ O3 ++ prB V (slsE V).1 n a (V.length - b) b = O2 ++ prB V (slsE V).1 n a (V.length - (a + 1)) (a + 1) ∧ SubE [(9, .int .i64 (b : Int)), (8, .int .i64 (a : Int)), (7, .int .i64 (n : Int)), (6, .slice a3 O3.length O3.length), (4, .slice aS (slsE V).1.length cS), (3, .int .i64 0), (2, .slice none 0 0), (0, .slice a0 V.length cap)] Le ∧ HoldG S [T1, S] S' [] [gOf 61 5 Par.cells (.slice a3 O3.length O3.length) O3]) ?_ (m := V.length - (a + 1)) ⟨a + 1, O2, a2, Nat.le_refl _, hav, rfl, by show O2.length ≤ 64 * n + 8 * a + (a + 1); omega, rfl, ⟨rfl, rfl, rfl, rfl, rfl, rfl, rfl, rfl, trivial⟩, hl⟩
    clear hl; rintro m Le S' ⟨b, O3, a3, hab, hb, rfl, hO3, hpr3, hsub3, hl⟩; refine xe_sub hsub3 ?_
    refine zg ?_
    constructor <;> intro h37
    ·
     have hbv : b < V.length := by have := of_decide_eq_true h37; omega
     rw [prB_step hbv] at hpr3
     have hkm := rkm_eq (hq a n hav hnn) (hq b n hbv hnn)
     refine zg ?_
     refine zc hl rfl (spec37 a0 aS cap cS V (slsE V).1 a b n (hl.keep.3 hF) (hs.move (hl.since 0 rfl)) hav hbv hnn) ?_; rintro v S1 hk1 rfl hl
     refine zg ?_
     constructor <;> intro h50
     ·
      refine zg ?_; refine rr rfl (rd_build rfl rfl (v := aggL [.int .i64 n, .int .i64 a, .int .i64 b, .int .i64 (rkmE V (slsE V).1 a b n).1, .int .i64 (rkmE V (slsE V).1 a b n).2]) (by rfl)) ?_; refine re_buildSliceR hl rfl rfl rfl rfl rfl Tryz.underlying56 rfl (c := [.int .i64 n, .int .i64 a, .int .i64 b, .int .i64 (rkmE V (slsE V).1 a b n).1, .int .i64 (rkmE V (slsE V).1 a b n).2]) (by kernel_rfl) ?_; intro B58 S1 hr58 hl
      refine re_appendG hl 0 rfl rfl (by simp) rfl rfl rfl rfl rfl rfl rfl Tryz.underlying56 Tryz.underlying56 rfl rfl (by kernel_rfl) (src_row (new := [.int .i64 n, .int .i64 a, .int .i64 b, .int .i64 (rkmE V (slsE V).1 a b n).1, .int .i64 (rkmE V (slsE V).1 a b n).2]) hr58 rfl) rfl rfl (by kernel_rfl) (by show O3.length + 1 ≤ maxNeed; unfold maxNeed; omega) ?_; intro v59 S1 hl
      obtain ⟨a4, rfl⟩ : ∃ x, v59 = .slice x (O3.length + 1) (O3.length + 1) := Grow.is (hl.gr _ (List.mem_cons_self ..))
      refine zg ?_
      refine ⟨V.length - (b + 1), by omega, b + 1, (O3 ++ [⟨(n : Int), (a : Int), (b : Int), (rkmE V (slsE V).1 a b n).1, (rkmE V (slsE V).1 a b n).2⟩]), a4, by omega, by omega, rfl, by rw [List.length_append]; show O3.length + 1 ≤ _; omega, ?_, ⟨rfl, rfl, rfl, congrArg some (congrArg (fun n => Value.slice a4 n n) (by rw [List.length_append]; rfl)), rfl, rfl, rfl, rfl, trivial⟩, ?_⟩
      ·rw [hkm] at h50 ⊢
       rw [← hpr3, prI_1 h50, List.append_assoc]
      ·rw [gOf_push]
       exact hl
     ·
      refine zg ?_
      exact ⟨V.length - (b + 1), by omega, b + 1, O3, a3, by omega, by omega, rfl, by omega, by rw [hkm] at h50; rw [← hpr3, prI_2 h50]; rfl, ⟨rfl, rfl, rfl, rfl, rfl, rfl, rfl, rfl, trivial⟩, hl⟩
    ·
     refine zg ?_
     have he : O3 = O2 ++ prB V (slsE V).1 n a (V.length - (a + 1)) (a + 1) := by rw [← hpr3, show V.length - b = 0 by have := of_decide_eq_false h37; omega]; exact (List.append_nil _).symm
     exact ⟨V.length - (a + 1), by omega, a + 1, O3, a3, by omega, rfl, by omega, by rw [he, List.append_assoc]; exact hpr2, ⟨rfl, rfl, rfl, rfl, rfl, rfl, rfl, trivial⟩, hl⟩
   ·
    refine zg ?_
    have he : O2 = O ++ prA V (slsE V).1 n V.length 0 := by rw [← hpr2, show V.length - a = 0 by have := of_decide_eq_false h29; omega]; exact (List.append_nil _).symm
    exact ⟨(slsE V).1.length - (n + 1), by omega, n + 1, O2, a2, by omega, rfl, by omega, by rw [he, List.append_assoc]; exact hpr, ⟨rfl, rfl, rfl, rfl, rfl, rfl, trivial⟩, hl⟩
  ·
   refine zg ?_
   refine y2 rfl rfl ⟨hl.keep, fnr_end h18 (by rw [← hpr, show (slsE V).1.length - n = 0 by have := of_decide_eq_false h23; omega]; exact (List.append_nil _).symm) (hl.gr _ (List.mem_cons_self ..))⟩
end Go.Proofs.YtgiibikieblicaaGreatDoor
namespace Go.Proofs.YtgiibikieblicaaGreatDoor
open Go.Cm Go
set_option maxRecDepth 100000
variable {S : St}
noncomputable def cd16 : Code := Tryz.f16.body.getD .skip
theorem spec16 (aV : Option Addr) (cV : Nat) (V : List (List Ev)) (hF : Fresh S) (hv : Vs S (.slice aV V.length cV) V) (hq : ∀ v n, v < V.length → n < (slsE V).1.length → rmvP V (slsE V).1 v n = mvP V (slsE V).1 v n) : CC Tryz.prog KK 16 [.slice aV V.length cV] S (fun v S' => Keep S S' ∧ ∃ w C, v = tupV [w, .int .i64 (fnE V).2] ∧ Ints S' w C ∧ (((fnE V).2 != 0) = false → nth C 0 = some ((fnE V).1.length : Int))) := by
 refine cc_enter (c := cd16) (n := 36) Tryz.func16 rfl rfl rfl (by kernel_rfl) rfl rfl ?_
 have hl := Hold.start S
 refine zg ?_
 refine zc hl rfl (spec26 aV cV V (hl.keep.3 hF) (hv.move (hl.since 0 rfl)) hq) ?_; have hl0 := hl; rintro v Sm hk1 ⟨av, rfl, hw⟩ hl; obtain ⟨A, hA⟩ : ∃ A, A = (fnE V).1 := ⟨_, rfl⟩; have hlen := fnE_len (V := V); have hok : ∀ p, p ∈ A → 1 ≤ p.k ∧ p.k ≤ 3 := fun p hp => fnE_k p (by rw [← hA]; exact hp); rw [← hA] at hw hlen ⊢; obtain ⟨fr, hl, hw⟩ := Grow.own (f := Par.cells) (fun _ => rfl) hl0 hk1 hw; have hl : HoldG S [S] Sm fr [] := hl
 refine zg ?_
 constructor <;> intro h14
 ·
  refine zg ?_
  exact (z2 rfl rfl ⟨hl.keep, ⟨_, [], rfl, LsOf.nil, fun h => by rw [h] at h14; cases h14⟩⟩)
 ·
  refine zg ?_; refine re_buildSliceB hl rfl rfl rfl rfl rfl Tryz.underlying39 rfl (c := c4 (A.length : Int) 0 0 0) (by kernel_rfl) ?_; intro B18 S1 hl; refine zA ?_; refine xp_seq rfl ?_; refine zS ?_; refine xp_block rfl ?_
  -- LOOP
  refine xe_sub (L' := [(7, .int .i64 0), (6, .slice (some ⟨B18, 0, none⟩) 4 4), (4, .slice av A.length A.length), (3, .int .i64 0), (2, .slice none 0 0)]) ⟨rfl, rfl, rfl, rfl, rfl, trivial⟩ ?_
  refine xp_loop rfl (fun m Le S' => ∃ (i : Nat) (c1 c2 c3 : Int), i ≤ A.length ∧ m = A.length - i ∧ (0 ≤ c1 ∧ c1 ≤ i) ∧ (0 ≤ c2 ∧ c2 ≤ i) ∧ (0 ≤ c3 ∧ c3 ≤ i) ∧ SubE [(7, .int .i64 (i : Int)), (6, .slice (some ⟨B18, 0, none⟩) 4 4), (4, .slice av A.length A.length), (3, .int .i64 0), (2, .slice none 0 0)] Le ∧ HoldG S [S] S' ((B18, .cells (c4 (A.length : Int) c1 c2 c3) 3 true true []) :: fr) []) ?_ (m := A.length) ⟨0, 0, 0, 0, Nat.zero_le _, rfl, ⟨Int.le_refl _, Int.le_refl _⟩, ⟨Int.le_refl _, Int.le_refl _⟩, ⟨Int.le_refl _, Int.le_refl _⟩, ⟨rfl, rfl, rfl, rfl, rfl, trivial⟩, hl⟩
  clear hl; rintro m Le S' ⟨i, c1, c2, c3, hi, rfl, hc1, hc2, hc3, hsub, hl⟩; refine xe_sub hsub ?_
  refine zg ?_
  constructor <;> intro h22
  ·
   have hlt : i < A.length := by have := of_decide_eq_true h22; omega
   obtain ⟨x, hx⟩ := nth_some hlt
   obtain ⟨b1, o1, cs1, ha, _, hrow, htk⟩ := (hw hl (fun p hp => List.mem_cons_of_mem _ hp)).elem hx
   obtain ⟨hk1, hk3⟩ := hok x (nth_mem hx)
   have hsb := s4_bd (k := x.k) hc1 hc2 hc3
   refine xp_skip rfl ?_; refine xp_seq rfl ?_; refine xp_block rfl ?_; refine xg (by kernel_rfl) ?_; iterate 3 refine rm rfl ?_
   refine rr rfl (rd_indexAddr rfl rfl rfl (indexAddr_sl (z := 5) ha Tryz.underlying56 (by kernel_rfl) ⟨by omega, by omega⟩)) ?_; refine rr rfl (rd_fieldAddr rfl rfl (fa Tryz.underlying61 az61 rfl)) ?_; refine rr rfl (rd_load rfl rfl (l2 hrow (tk_nth (j := 3) htk rfl))) ?_; refine rr rfl (rd_indexAddr rfl rfl rfl (indexAddr_slice (z := 1) Tryz.underlying39 (by kernel_rfl) ⟨by omega, by omega⟩)) ?_; refine rr rfl (rd_load rfl rfl (l1 (hl.get 0 rfl) (nth4 hk1 hk3))) ?_; refine rr rfl (rd_bin rfl rfl rfl (i6 (by omega))) ?_
   refine rr rfl (rd_indexAddr rfl rfl rfl (indexAddr_slice (z := 1) Tryz.underlying39 (by kernel_rfl) ⟨by omega, by omega⟩)) ?_; refine re_storeR hl 0 rfl rfl rfl rfl rfl rfl rfl (by kernel_rfl) (set4 hk1 hk3) ?_; intro S1 hl; refine zg ?_
   exact ⟨A.length - (i + 1), by omega, i + 1, _, _, _, by omega, rfl, u4_bd (by omega) hc1, u4_bd (by omega) hc2, u4_bd (by omega) hc3, ⟨rfl, rfl, rfl, rfl, rfl, trivial⟩, hl⟩
  ·
   refine zg ?_
   refine y2 rfl rfl ⟨hl.keep, ⟨_, [(A.length : Int), c1, c2, c3], by rw [show (fnE V).2 = 0 by simpa using h14] <;> rfl, LsOf.row (f := ic) (C := [(A.length : Int), c1, c2, c3]) (fun _ => rfl) (own_mem hl (List.mem_cons_self ..)) rfl, fun _ => rfl⟩⟩
end Go.Proofs.YtgiibikieblicaaGreatDoor
namespace Go.Proofs.YtgiibikieblicaaGreatDoor
open Go.Cm Go
set_option maxRecDepth 100000
variable {S : St}
def btR (V : List (List Ev)) (v : Nat) (i : Int) : Int := (numE (evAt V v (i + 1)).p).1 - (numE (evAt V v i).p).1
def rsE (V : List (List Ev)) (v : Nat) (i : Int) : Int := bif spB V v i then 0 else btR V v i
section
variable {V : List (List Ev)} {v : Nat} {i : Int}
theorem rs_y (h : spB V v i = true) : rsE V v i = 0 := by unfold rsE; rw [h]; rfl
theorem rs_n (h : spB V v i = false) : rsE V v i = btR V v i := by unfold rsE; rw [h]; rfl
def oneB (a : Int) : Bool := (a == 1) || (a == -1)
def rpaB (V : List (List Ev)) (v : Nat) (i : Int) : Bool := (shB (evAt V v i) && oneB (rsE V v (i - 1))) && (rsE V v (i - 1) == rsE V v i)
def rtuB (V : List (List Ev)) (v : Nat) (i : Int) : Bool := (((shB (evAt V v i) && oneB (rsE V v (i - 1))) && decide (i + 1 < lenV V v)) && !(evAt V v (i + 1)).rest) && decide ((evAt V v (i + 1)).p = (evAt V v (i - 1)).p)
theorem one_ne {a : Int} (h : oneB a = true) : a ≠ 0 := by
 rintro rfl
 cases h
theorem rs_in {x : List Ev} (hx : nth V v = some x) (h : rsE V v i ≠ 0) : 0 ≤ i ∧ i + 1 < (x.length : Int) := by
 cases hs : spB V v i with
 | true => exact absurd (rs_y hs) h
 | false => exact spB_ok hx hs
end
theorem gb_neT {S0 S : St} {g : Gr} {B : Nat} {c : List Value} {e : TypeId} {r o : Bool} {k : List Nat} (hg : Grow S0 S g) (h : S.get B = some (.cells c e r o k)) (hne : g.e ≠ e) : gb g.v ≠ some B := by
 rcases hg with ⟨h1, _⟩ | ⟨b, kin, h1, _, _, h4, _⟩
 ·rw [h1]; exact nofun
 ·rw [h1]
  intro hb
  have : b = B := Option.some.inj hb
  subst this
  rw [h4] at h
  cases h
  exact hne rfl
noncomputable def cd113 : Code := Tryz.f113.body.getD .skip
theorem spec113 (x : Ev) : CC Tryz.prog KK 113 [x.v] S (fun v S' => Keep S S' ∧ v = .bool (shB x)) := by
 refine cc_enter (c := cd113) (n := 14) Tryz.func113 rfl rfl rfl (by kernel_rfl) rfl rfl ?_
 have hl := Hold.start S
 refine zg ?_; refine re_boxL hl rfl rfl rfl rfl rfl rfl ?_; intro B1 S1 hl; refine zg ?_; refine rr rfl (rd_build rfl rfl (v := aggL [.int .i64 1, .int .i64 1]) (by rfl)) ?_
 refine zc hl rfl (spec104 x.dur ⟨1, 1⟩) ?_; rintro v S1 hk1 rfl hl
 refine zg ?_
 refine y1 rfl ⟨hl.keep, rfl⟩
noncomputable def cd112 : Code := Tryz.f112.body.getD .skip
theorem spec112 (ax : Option Addr) (cx : Nat) (V : List (List Ev)) (vv : Nat) (x : List Ev) (i : Int) (hx : nth V vv = some x) (hxl : x.length ≤ 2000) (hvx : Evs S (.slice ax x.length cx) x) (hi1 : -10 ≤ i) (hi2 : i ≤ 10000) : CC Tryz.prog KK 112 [.slice ax x.length cx, .int .i64 i] S (fun v S' => Keep S S' ∧ v = .int .i64 (rsE V vv i)) := by
 refine cc_enter (c := cd112) (n := 55) Tryz.func112 rfl rfl rfl (by kernel_rfl) rfl rfl ?_
 have hl := Hold.start S
 have hlx := lenV_at hx
 refine zS ?_; refine xp_seq rfl ?_; refine xp_seq rfl (xe_toE hl 32 (.bool (spB V vv i)) ?_ rfl ?_)
 ·
  refine zg ?_; refine re_bool (d := 11) rfl (fun h11 => ?_) (fun h11 => ?_)
  ·
   refine zg ?_
   exact ⟨rfl, bl (by unfold spB; rw [hlx, h11]; first | rfl | (rw [hew]; rfl)), sB, hl⟩
  ·
   refine zg ?_; refine re_bool (d := 18) rfl (fun h18 => ?_) (fun h18 => ?_)
   ·
    refine zg ?_
    exact ⟨rfl, bl (by unfold spB; rw [hlx, h11, h18]; first | rfl | (rw [hew]; rfl)), sB, hl⟩
   ·
    have hi0 : 0 ≤ i := by have := of_decide_eq_false h11; omega
    have hi3 : i + 1 < (x.length : Int) := by have := of_decide_eq_false h18; omega
    obtain ⟨y, hy⟩ := nth_some (l := x) (i := i.toNat) (by omega)
    obtain ⟨b4, o4, cs4, ha4, _, hrow4, htk4⟩ := hvx.elem hy
    have hey := evAt_at hx hy
    obtain ⟨w, hw⟩ := nth_some (l := x) (i := (i + 1).toNat) (by omega)
    obtain ⟨b5, o5, cs5, ha5, _, hrow5, htk5⟩ := hvx.elem hw
    have hew := evAt_at hx hw
    refine zg ?_; refine re_bool (d := 25) rfl (fun h25 => ?_) (fun h25 => ?_)
    ·
     refine zg ?_
     exact ⟨rfl, bl (by unfold spB; rw [hlx, hey, h11, h18, h25]; first | rfl | (rw [hew]; rfl)), sB, hl⟩
    ·
     refine zg ?_
     exact ⟨rfl, bl (by unfold spB; rw [hlx, hey, h11, h18, h25]; first | rfl | (rw [hew]; rfl)), sB, hl⟩
 intro S1 hl
 refine zg ?_
 constructor <;> intro h32
 ·
  refine zg ?_
  exact (z1 rfl ⟨hl.keep, congrArg (Value.int .i64) (rs_y h32).symm⟩)
 ·
  obtain ⟨hi0, hi3⟩ := spB_ok hx h32
  obtain ⟨y, hy⟩ := nth_some (l := x) (i := i.toNat) (by omega)
  obtain ⟨b4, o4, cs4, ha4, _, hrow4, htk4⟩ := hvx.elem hy
  have hey := evAt_at hx hy
  obtain ⟨w, hw⟩ := nth_some (l := x) (i := (i + 1).toNat) (by omega)
  obtain ⟨b5, o5, cs5, ha5, _, hrow5, htk5⟩ := hvx.elem hw
  have hew := evAt_at hx hw
  have n1 := numE_bd y.p
  have n2 := numE_bd w.p
  refine zg ?_
  refine zc hl rfl (spec79 y.p) ?_; rintro v S1 hk1 rfl hl
  refine zg ?_
  refine zc hl rfl (spec79 w.p) ?_; rintro v S1 hk1 rfl hl
  refine zg ?_
  refine y1 rfl ⟨hl.keep, congrArg (Value.int .i64) (by rw [rs_n h32]; unfold btR; rw [hey, hew])⟩
end Go.Proofs.YtgiibikieblicaaGreatDoor
namespace Go.Proofs.YtgiibikieblicaaGreatDoor
open Go.Cm Go
set_option maxRecDepth 100000
variable {S : St}
noncomputable def cd82 : Code := Tryz.f82.body.getD .skip
theorem spec82 (aV aS : Option Addr) (cV cS : Nat) (V : List (List Ev)) (L : List Sl) (n : Nat) (s : Sl) (aw : Option Addr) (cw : Nat) (vv : Nat) (hs : SetAt S aV aS cV cS V L) (hsn : nth L n = some s) (hiv : Ints S (.slice aw s.ev.length cw) s.ev) (hvv : vv < V.length) : CC Tryz.prog KK 82 [.slice aV V.length cV, aggL [.int .i64 s.at_.n, .int .i64 s.at_.d, .int .i64 s.dur.n, .int .i64 s.dur.d, .slice aw s.ev.length cw], .int .i64 (vv : Int)] S (fun v S' => Keep S S' ∧ v = .bool (stB V L n vv)) := by
 refine cc_enter (c := cd82) (n := 30) Tryz.func82 rfl rfl rfl (by kernel_rfl) rfl rfl ?_
 have hl := Hold.start S
 obtain ⟨x, hx⟩ := nth_some hvv
 obtain ⟨hwl, hwi⟩ := hs.wf n s hsn
 obtain ⟨i, hi⟩ := nth_some (l := s.ev) (i := vv) (by omega)
 obtain ⟨b2, o2, cs2, ha2, _, hrow2, htk2⟩ := hiv.elem hi
 obtain ⟨b3, o3, cs3, ax, cx, ha3, _, hrow3, htk3, hvx⟩ := hs.vs.elem hx
 have hix := hwi vv i x hi hx
 have hei := evI_at hsn hi
 have hal := atL_at hsn
 refine zg ?_; refine re_boxL hl rfl rfl rfl rfl rfl rfl ?_; intro B4 S4 hl; refine zA ?_; refine xe_sub (L' := [(4, ptrTo B4 0), (0, .slice aV V.length cV), (2, .int .i64 (vv : Int))]) ⟨rfl, rfl, rfl, trivial⟩ ?_; refine xp_seq rfl (xe_toE hl 6 (.bool (stB V L n vv)) ?_ rfl ?_)
 ·
  refine xp_draw (idx := [0, 1, 2, 3, 4, 5, 6, 7, 8, 9, 10, 11, 12, 13, 14, 15, 16, 17, 18, 19, 20, 21, 22, 23]) rfl (by kernel_rfl) (by kernel_rfl) ?_; refine zg ?_; refine rp_bool (d := 13) rfl (fun h13 => ?_) (fun h13 => ?_)
  ·
   have h0 : 0 ≤ i := by have := of_decide_eq_true h13; omega
   obtain ⟨y, hy⟩ := nth_some (l := x) (i := i.toNat) (by omega)
   obtain ⟨b4, o4, cs4, ha4, _, hrow4, htk4⟩ := hvx.elem hy
   have hey := evAt_at hx hy
   refine zg ?_
   exact ⟨rfl, bl (by unfold stB; rw [hei, h13, hey, hal]; rfl), sB, hl⟩
  ·
   refine zg ?_
   exact ⟨rfl, bl (by unfold stB; rw [hei, h13]; rfl), sB, hl⟩
 intro S1 hl
 refine zg ?_
 refine y1 rfl ⟨hl.keep, rfl⟩
end Go.Proofs.YtgiibikieblicaaGreatDoor
namespace Go.Proofs.YtgiibikieblicaaGreatDoor
open Go.Cm Go
set_option maxRecDepth 100000
variable {S : St}
noncomputable def cd83 : Code := Tryz.f83.body.getD .skip
theorem spec83 (ax : Option Addr) (cx : Nat) (V : List (List Ev)) (vv : Nat) (x : List Ev) (i : Int) (hx : nth V vv = some x) (hxl : x.length ≤ 2000) (hvx : Evs S (.slice ax x.length cx) x) (hi0 : 0 ≤ i) (hil : i < x.length) : CC Tryz.prog KK 83 [.slice ax x.length cx, .int .i64 i] S (fun v S' => Keep S S' ∧ v = .bool (rpaB V vv i)) := by
 refine cc_enter (c := cd83) (n := 32) Tryz.func83 rfl rfl rfl (by kernel_rfl) rfl rfl ?_
 have hl := Hold.start S
 obtain ⟨y, hy⟩ := nth_some (l := x) (i := i.toNat) (by omega)
 obtain ⟨b4, o4, cs4, ha4, _, hrow4, htk4⟩ := hvx.elem hy
 have hey := evAt_at hx hy
 refine zg ?_
 refine zc hl rfl (spec112 ax cx V vv x (i - 1) hx hxl (hvx.move (hl.since 0 rfl)) (by omega) (by omega)) ?_; rintro v S1 hk1 rfl hl
 refine zg ?_
 refine zc hl rfl (spec112 ax cx V vv x i hx hxl (hvx.move (hl.since 0 rfl)) (by omega) (by omega)) ?_; rintro v S1 hk1 rfl hl
 refine zA ?_; refine xe_sub (L' := [(6, .int .i64 (rsE V vv i)), (5, .int .i64 (rsE V vv (i - 1))), (0, .slice ax x.length cx), (1, .int .i64 i)]) ⟨rfl, rfl, rfl, rfl, trivial⟩ ?_; refine xp_seq rfl (xe_toE hl 4 (.bool (rpaB V vv i)) ?_ rfl ?_)
 ·
  refine zg ?_
  refine zc hl rfl (spec113 y) ?_; rintro v S1 hk1 rfl hl
  refine zg ?_; refine re_bool (d := 19) rfl (fun h19 => ?_) (fun h19 => ?_)
  ·
   refine zg ?_; refine re_bool (d := 22) rfl (fun h22 => ?_) (fun h22 => ?_)
   ·
    refine zg ?_
    exact ⟨rfl, bl (by unfold rpaB oneB; rw [hey, h19, h22]; rfl), sB, hl⟩
   ·
    refine zg ?_; refine re_bool (d := 27) rfl (fun h27 => ?_) (fun h27 => ?_)
    ·
     refine zg ?_
     exact ⟨rfl, bl (by unfold rpaB oneB; rw [hey, h19, h22, h27]; rfl), sB, hl⟩
    ·
     refine zg ?_
     exact ⟨rfl, bl (by unfold rpaB oneB; rw [hey, h19, h22, h27]; rfl), sB, hl⟩
  ·
   refine zg ?_
   exact ⟨rfl, bl (by unfold rpaB oneB; rw [hey, h19]; rfl), sB, hl⟩
 intro S1 hl
 refine zg ?_
 refine y1 rfl ⟨hl.keep, rfl⟩
noncomputable def cd84 : Code := Tryz.f84.body.getD .skip
theorem spec84 (ax : Option Addr) (cx : Nat) (V : List (List Ev)) (vv : Nat) (x : List Ev) (i : Int) (hx : nth V vv = some x) (hxl : x.length ≤ 2000) (hvx : Evs S (.slice ax x.length cx) x) (hi0 : 0 ≤ i) (hil : i < x.length) : CC Tryz.prog KK 84 [.slice ax x.length cx, .int .i64 i] S (fun v S' => Keep S S' ∧ v = .bool (rtuB V vv i)) := by
 refine cc_enter (c := cd84) (n := 54) Tryz.func84 rfl rfl rfl (by kernel_rfl) rfl rfl ?_
 have hl := Hold.start S
 obtain ⟨y, hy⟩ := nth_some (l := x) (i := i.toNat) (by omega)
 obtain ⟨b4, o4, cs4, ha4, _, hrow4, htk4⟩ := hvx.elem hy
 have hey := evAt_at hx hy
 have hlx := lenV_at hx
 refine zg ?_
 refine zc hl rfl (spec112 ax cx V vv x (i - 1) hx hxl (hvx.move (hl.since 0 rfl)) (by omega) (by omega)) ?_; rintro v S1 hk1 rfl hl
 refine zA ?_; refine xe_sub (L' := [(5, .int .i64 (rsE V vv (i - 1))), (0, .slice ax x.length cx), (1, .int .i64 i)]) ⟨rfl, rfl, rfl, trivial⟩ ?_; refine xp_seq rfl (xe_toE hl 4 (.bool (rtuB V vv i)) ?_ rfl ?_)
 ·
  refine xp_draw (idx := [0, 1, 2, 3, 4, 5, 6, 7, 8, 9, 10, 11, 12, 13, 14, 15, 16, 17, 18, 19, 20, 21, 22, 23, 24, 25, 26, 27, 28, 29, 30, 31, 32, 33, 34, 35, 36, 37, 38, 39, 40, 41, 42, 43, 44]) rfl (by kernel_rfl) (by kernel_rfl) ?_; refine zg ?_
  refine zp hl rfl (spec113 y) ?_; rintro v S1 hk1 rfl hl; refine ⟨zt, ?_⟩
  refine zg ?_; refine rp_bool (d := 15) rfl (fun h15 => ?_) (fun h15 => ?_)
  ·
   refine zg ?_; refine rp_bool (d := 18) rfl (fun h18 => ?_) (fun h18 => ?_)
   ·
    refine zg ?_; refine rp_bool (d := 30) rfl (fun h30 => ?_) (fun h30 => ?_)
    ·
     have hi3 : i + 1 < (x.length : Int) := of_decide_eq_true h30
     obtain ⟨w, hw⟩ := nth_some (l := x) (i := (i + 1).toNat) (by omega)
     obtain ⟨b5, o5, cs5, ha5, _, hrow5, htk5⟩ := hvx.elem hw
     have hew := evAt_at hx hw
     refine zg ?_; refine pr rfl (rd_un rfl rfl rfl) ?_; refine zg ?_; refine rp_bool (d := 39) rfl (fun h39 => ?_) (fun h39 => ?_)
     ·
      obtain ⟨hi9, _⟩ := rs_in hx (one_ne (by unfold oneB; rw [h18]; rfl))
      obtain ⟨u, hu⟩ := nth_some (l := x) (i := (i - 1).toNat) (by omega)
      obtain ⟨b6, o6, cs6, ha6, _, hrow6, htk6⟩ := hvx.elem hu
      have heu := evAt_at hx hu
      refine zg ?_
      exact ⟨rfl, bl (by unfold rtuB oneB; first | (rw [hey, h15, h18, hlx, h30, hew, h39]; rfl) | (rw [hey, h15, h18, hlx, h30, hew, h39, heu]; rfl)), sB, hl⟩
     ·
      refine zg ?_
      exact ⟨rfl, bl (by unfold rtuB oneB; first | (rw [hey, h15, h18, hlx, h30, hew, h39]; rfl) | (rw [hey, h15, h18, hlx, h30, hew, h39, heu]; rfl)), sB, hl⟩
    ·
     refine zg ?_
     exact ⟨rfl, bl (by unfold rtuB oneB; first | (rw [hey, h15, h18, hlx, h30]; rfl) | (rw [hey, h15, h18, hlx, h30]; rfl)), sB, hl⟩
   ·
    refine zg ?_; refine rp_bool (d := 23) rfl (fun h23 => ?_) (fun h23 => ?_)
    ·
     refine zg ?_; refine rp_bool (d := 30) rfl (fun h30 => ?_) (fun h30 => ?_)
     ·
      have hi3 : i + 1 < (x.length : Int) := of_decide_eq_true h30
      obtain ⟨w, hw⟩ := nth_some (l := x) (i := (i + 1).toNat) (by omega)
      obtain ⟨b5, o5, cs5, ha5, _, hrow5, htk5⟩ := hvx.elem hw
      have hew := evAt_at hx hw
      refine zg ?_; refine pr rfl (rd_un rfl rfl rfl) ?_; refine zg ?_; refine rp_bool (d := 39) rfl (fun h39 => ?_) (fun h39 => ?_)
      ·
       obtain ⟨hi9, _⟩ := rs_in hx (one_ne (by unfold oneB; rw [h18, h23]; rfl))
       obtain ⟨u, hu⟩ := nth_some (l := x) (i := (i - 1).toNat) (by omega)
       obtain ⟨b6, o6, cs6, ha6, _, hrow6, htk6⟩ := hvx.elem hu
       have heu := evAt_at hx hu
       refine zg ?_
       exact ⟨rfl, bl (by unfold rtuB oneB; first | (rw [hey, h15, h18, h23, hlx, h30, hew, h39]; rfl) | (rw [hey, h15, h18, h23, hlx, h30, hew, h39, heu]; rfl)), sB, hl⟩
      ·
       refine zg ?_
       exact ⟨rfl, bl (by unfold rtuB oneB; first | (rw [hey, h15, h18, h23, hlx, h30, hew, h39]; rfl) | (rw [hey, h15, h18, h23, hlx, h30, hew, h39, heu]; rfl)), sB, hl⟩
     ·
      refine zg ?_
      exact ⟨rfl, bl (by unfold rtuB oneB; first | (rw [hey, h15, h18, h23, hlx, h30]; rfl) | (rw [hey, h15, h18, h23, hlx, h30]; rfl)), sB, hl⟩
    ·
     refine zg ?_
     exact ⟨rfl, bl (by unfold rtuB oneB; first | (rw [hey, h15, h18, h23]; rfl) | (rw [hey, h15, h18, h23]; rfl)), sB, hl⟩
  ·
   refine zg ?_
   exact ⟨rfl, bl (by unfold rtuB oneB; first | (rw [hey, h15]; rfl) | (rw [hey, h15]; rfl)), sB, hl⟩
 intro S1 hl
 refine zg ?_
 refine y1 rfl ⟨hl.keep, rfl⟩
end Go.Proofs.YtgiibikieblicaaGreatDoor
namespace Go.Proofs.YtgiibikieblicaaGreatDoor
open Go.Cm Go
set_option maxRecDepth 100000
variable {S : St}
noncomputable def cd80 : Code := Tryz.f80.body.getD .skip
theorem spec80 (aV aS : Option Addr) (cV cS : Nat) (V : List (List Ev)) (L : List Sl) (n : Nat) (s : Sl) (aw : Option Addr) (cw : Nat)  (hF : Fresh S) (hs : SetAt S aV aS cV cS V L) (hsn : nth L n = some s) (hiv : Ints S (.slice aw s.ev.length cw) s.ev) : CC Tryz.prog KK 80 [.slice aV V.length cV, aggL [.int .i64 s.at_.n, .int .i64 s.at_.d, .int .i64 s.dur.n, .int .i64 s.dur.d, .slice aw s.ev.length cw]] S (fun v S' => Keep S S' ∧ ∃ w1 w2, v = tupV [w1, w2] ∧ Ints S' w1 ((chE V L n).map (·.1)) ∧ Pts S' w2 ((chE V L n).map (·.2))) := by
 refine cc_enter (c := cd80) (n := 51) Tryz.func80 rfl rfl rfl (by kernel_rfl) rfl rfl ?_
 have hl := Hold.start S
 obtain ⟨hwl, hwi⟩ := hs.wf n s hsn
 have hVn := hs.hn
 refine zg ?_; refine re_boxL hl rfl rfl rfl rfl rfl rfl ?_; intro B3 S3 hl; refine zA ?_; iterate 2 refine zS ?_
 refine xp_seq rfl ?_; refine zS ?_; refine xp_block rfl ?_
 -- LOOP
 have hl := hl.addG (g := gOf 3 1 ic (.slice none 0 0) []) (.inl ⟨rfl, rfl, rfl⟩)
 have hl := hl.addG (g := gOf 52 3 Pt.cells (.slice none 0 0) []) (.inl ⟨rfl, rfl, rfl⟩)
 refine xe_sub (L' := [(8, .int .i64 0), (7, .slice none (([] : List Pt)).length (([] : List Pt)).length), (6, .slice none (([] : List Value)).length (([] : List Value)).length), (5, .slice none 0 0), (4, .slice none 0 0), (3, ptrTo B3 0), (0, .slice aV V.length cV)]) ⟨rfl, rfl, rfl, rfl, rfl, rfl, rfl, trivial⟩ ?_
 refine xp_loop rfl (fun m Le S' => ∃ (j : Nat) (W : List Int) (P : List Pt) (a1 a2 : Option Addr), j ≤ V.length ∧ m = V.length - j ∧ W.length ≤ j ∧ P.length ≤ j ∧ W ++ (chI V L n (V.length - j) j).map (·.1) = (chE V L n).map (·.1) ∧ P ++ (chI V L n (V.length - j) j).map (·.2) = (chE V L n).map (·.2) ∧ SubE [(8, .int .i64 (j : Int)), (7, .slice a2 (P).length (P).length), (6, .slice a1 (W).length (W).length), (5, .slice none 0 0), (4, .slice none 0 0), (3, ptrTo B3 0), (0, .slice aV V.length cV)] Le ∧ HoldG S [S] S' [(B3, .cells [.int .i64 s.at_.n, .int .i64 s.at_.d, .int .i64 s.dur.n, .int .i64 s.dur.d, .slice aw s.ev.length cw] 110 false true [])] [gOf 52 3 Pt.cells (.slice a2 (P).length (P).length) (P), gOf 3 1 ic (.slice a1 (W).length (W).length) (W)]) ?_ (m := V.length) ⟨0, [], [], none, none, Nat.zero_le _, rfl, Nat.le_refl _, Nat.le_refl _, rfl, rfl, ⟨rfl, rfl, rfl, rfl, rfl, rfl, rfl, trivial⟩, hl⟩
 clear hl; rintro m Le S' ⟨j, W, P, a1, a2, hj, rfl, hW, hP, hp1, hp2, hsub, hl⟩; refine xe_sub hsub ?_
 refine zg ?_
 constructor <;> intro h13
 ·
  have hlt : j < V.length := by have := of_decide_eq_true h13; omega
  obtain ⟨x, hx⟩ := nth_some hlt
  obtain ⟨i, hi⟩ := nth_some (l := s.ev) (i := j) (by omega)
  obtain ⟨b2, o2, cs2, ha2, _, hrow2, htk2⟩ := hiv.elem hi
  obtain ⟨b3, o3, cs3, ax, cx, ha3, _, hrow3, htk3, hvx⟩ := hs.vs.elem hx
  have hix := hwi j i x hi hx
  have hei := evI_at hsn hi
  rw [show V.length - j = (V.length - (j + 1)) + 1 by omega] at hp1 hp2
  refine xp_skip rfl ?_; refine xp_seq rfl ?_; refine xp_block rfl ?_; refine zS ?_; refine xp_seq rfl (xe_toE hl 33 (.bool (chB V L n j)) ?_ rfl ?_)
  ·
   refine zg ?_; refine re_bool (d := 23) rfl (fun h23 => ?_) (fun h23 => ?_)
   ·
    have h0 : 0 ≤ i := of_decide_eq_true h23
    obtain ⟨y, hy⟩ := nth_some (l := x) (i := i.toNat) (by omega)
    obtain ⟨b4, o4, cs4, ha4, _, hrow4, htk4⟩ := hvx.elem hy
    have hey := evAt_at hx hy
    refine zg ?_; refine rr rfl (rd_un rfl rfl rfl) ?_; refine zg ?_
    exact ⟨rfl, bl (by unfold chB; rw [hei, h23, hey]; rfl), sB, hl⟩
   ·
    refine zg ?_
    exact ⟨rfl, bl (by unfold chB; rw [hei, h23]; rfl), sB, hl⟩
  intro S1 hl
  refine zg ?_
  constructor <;> intro h33
  ·
   have h0 : 0 ≤ i := by
    cases hd0 : decide (i ≥ 0) with
    | true => exact of_decide_eq_true hd0
    | false => unfold chB at h33; rw [hei, hd0] at h33; cases h33
   obtain ⟨y, hy⟩ := nth_some (l := x) (i := i.toNat) (by omega)
   obtain ⟨b4, o4, cs4, ha4, _, hrow4, htk4⟩ := hvx.elem hy
   have hey := evAt_at hx hy
   rw [ch_1 h33, hei, hey] at hp1 hp2
   refine xp_draw (idx := [0, 1, 2, 4, 5, 6, 7, 8, 9, 10, 11, 12, 13, 3, 14, 15, 16]) rfl (by kernel_rfl) (by kernel_rfl) ?_; refine zg ?_
   refine rp_buildSliceR hF hl rfl rfl rfl rfl rfl Tryz.underlying39 rfl (c := ic (j : Int)) (by kernel_rfl) ?_; intro B36 T1 hg36 hr36 hl; have hl := hl.mark
   refine zg ?_
   refine rp_buildSliceR hF hl rfl rfl rfl rfl rfl Tryz.underlying98 rfl (c := y.p.cells) (by kernel_rfl) ?_; intro B47 T2 hg47 hr47 hl; have hl := hl.mark; have hgv := hl.gr _ (List.mem_cons_of_mem _ (List.mem_cons_self ..))
   refine rp_appendX hl 1 rfl rfl (show ([52, 3] : List TypeId).Nodup by decide) rfl rfl rfl rfl rfl rfl rfl Tryz.underlying39 Tryz.underlying39 rfl rfl (by kernel_rfl) (src_row (new := ic (j : Int)) (row_move (hl.since 1 rfl) hr36) rfl) rfl rfl (by kernel_rfl) (by show W.length + 1 ≤ maxNeed; unfold maxNeed; omega) ?_; intro v37 S1 hl hx; obtain ⟨av3, rfl⟩ : ∃ av3, v37 = .slice av3 (W.length + 1) (W.length + 1) := Grow.is (hl.gr _ (List.mem_cons_of_mem _ (List.mem_cons_self ..))); refine ⟨by repeat (first| exact trivial| refine stays_left ?_| (refine ⟨by first| exact sN rfl (hx _ _ hr47.1 (gb_neT hgv hg47 (show (3 : TypeId) ≠ 52 by decide)) hg47) (by simp [Pt.cells])| exact stays_load rfl rfl (l2 (row_move (hl.since 2 rfl) hrow3) htk3) sQ rfl| exact stays_load rfl rfl (lR (z := 3) (l := y.p.cells) (row_move (hl.since 2 rfl) hrow4) (tk_part (j := 4) (l2 := y.p.cells) htk4 rfl)) sG rfl| exact sZ, ?_⟩)), ?_⟩
   refine rp_appendG hl 0 rfl rfl (show ([52, 3] : List TypeId).Nodup by decide) rfl rfl rfl rfl rfl rfl rfl Tryz.underlying98 Tryz.underlying98 rfl rfl (by kernel_rfl) (src_row (new := y.p.cells) (row_move (hl.since 0 rfl) hr47) rfl) rfl rfl (by kernel_rfl) (by show P.length + 1 ≤ maxNeed; unfold maxNeed; omega) ?_; intro v48 S1 hl; obtain ⟨av4, rfl⟩ : ∃ av4, v48 = .slice av4 (P.length + 1) (P.length + 1) := Grow.is (hl.gr _ (List.mem_cons_self ..)); have hl := HoldG.unmark (HoldG.unmark hl); refine ⟨stays_all (by kernel_rfl), ?_⟩
   refine zg ?_
   refine ⟨V.length - (j + 1), by omega, j + 1, W ++ [(j : Int)], P ++ [y.p], av3, av4, by omega, rfl, by rw [List.length_append]; exact Nat.succ_le_succ hW, by rw [List.length_append]; exact Nat.succ_le_succ hP, by rw [List.append_assoc]; exact hp1, by rw [List.append_assoc]; exact hp2, ⟨rfl, congrArg some (congrArg (fun n => Value.slice av4 n n) (by rw [List.length_append]; rfl)), congrArg some (congrArg (fun n => Value.slice av3 n n) (by rw [List.length_append]; rfl)), rfl, rfl, rfl, rfl, trivial⟩, ?_⟩
   rw [gOf_push, gOf_push]
   exact hl
  ·
   refine zg ?_
   rw [ch_2 h33] at hp1 hp2
   exact ⟨V.length - (j + 1), by omega, j + 1, W, P, a1, a2, by omega, rfl, by omega, by omega, hp1, hp2, ⟨rfl, rfl, rfl, rfl, rfl, rfl, rfl, trivial⟩, hl⟩
 ·
  have hz : V.length - j = 0 := by have := of_decide_eq_false h13; omega
  rw [hz] at hp1 hp2
  have hp1 : W = (chE V L n).map (·.1) := (List.append_nil W).symm.trans hp1
  have hp2 : P = (chE V L n).map (·.2) := (List.append_nil P).symm.trans hp2
  rw [← hp1, ← hp2]
  refine zg ?_
  refine y2 rfl rfl ⟨hl.keep, ⟨_, _, rfl, Grow.ls (f := ic) (fun _ => rfl) (hl.gr _ (List.mem_cons_of_mem _ (List.mem_cons_self ..))), Grow.ls (f := Pt.cells) (fun _ => rfl) (hl.gr _ (List.mem_cons_self ..))⟩⟩
end Go.Proofs.YtgiibikieblicaaGreatDoor
namespace Go.Proofs.YtgiibikieblicaaGreatDoor
open Go.Cm Go
set_option maxRecDepth 100000
variable {S : St}
def rxB (W : List Int) (a b : Int) (c : Cl) : Bool := ((nth W c.a.toNat).getD 0 == a) && ((nth W c.b.toNat).getD 0 == b)
def rcF (W : List Int) (a b : Int) : List Cl → Int
 | [] => 0
 | c :: r => bif rxB W a b c then c.k else rcF W a b r
def rclE (V : List (List Ev)) (L : List Sl) (n : Nat) (a b : Int) : Int := rcF ((chE V L n).map (·.1)) a b (clE ((chE V L n).map (·.2)))
theorem rcF_1 {W : List Int} {a b : Int} {c : Cl} {r : List Cl} (h : rxB W a b c = true) : rcF W a b (c :: r) = c.k := by rw [rcF, h]; rfl
theorem rcF_2 {W : List Int} {a b : Int} {c : Cl} {r : List Cl} (h : rxB W a b c = false) : rcF W a b (c :: r) = rcF W a b r := by rw [rcF, h]; rfl
def PVl (V : List (List Ev)) : Prop := ∀ x, x ∈ V → ∀ y, y ∈ x → y.rest = false → pB y.p = false
theorem pv_at {V : List (List Ev)} {v : Nat} {i : Int} (h : PVl V) (hr : (evAt V v i).rest = false) : pB (evAt V v i).p = false := by
 unfold evAt at hr ⊢
 cases hx : nth V v with
 | none => rfl
 | some x =>
  rw [hx] at hr
  show pB ((nth x i.toNat).getD e0).p = false
  have hr : ((nth x i.toNat).getD e0).rest = false := hr
  cases hy : nth x i.toNat with
  | none => rfl
  | some y => rw [hy] at hr; exact h x (nth_mem hx) y (nth_mem hy) hr
theorem ch_pv {V : List (List Ev)} {L : List Sl} {n : Nat} (h : PVl V) : ∀ f v p, p ∈ (chI V L n f v).map (·.2) → pB p = false
 | 0, _, _, hp => (List.not_mem_nil hp).elim
 | f + 1, v, p, hp => by
  cases hc : chB V L n v with
  | false => rw [ch_2 hc] at hp; exact ch_pv h f (v + 1) p hp
  | true =>
   rw [ch_1 hc, List.map_cons] at hp
   rcases List.mem_cons.1 hp with rfl | hp
   ·refine pv_at h ?_
    unfold chB at hc
    rw [Bool.and_eq_true] at hc
    simpa using hc.2
   ·exact ch_pv h f (v + 1) p hp
noncomputable def cd57 : Code := Tryz.f57.body.getD .skip
theorem spec57 (aV aS : Option Addr) (cV cS : Nat) (V : List (List Ev)) (L : List Sl) (n : Nat) (s : Sl) (aw : Option Addr) (cw : Nat) (a b : Int) (hF : Fresh S) (hs : SetAt S aV aS cV cS V L) (hpv : PVl V) (hsn : nth L n = some s) (hiv : Ints S (.slice aw s.ev.length cw) s.ev) : CC Tryz.prog KK 57 [.slice aV V.length cV, aggL [.int .i64 s.at_.n, .int .i64 s.at_.d, .int .i64 s.dur.n, .int .i64 s.dur.d, .slice aw s.ev.length cw], .int .i64 a, .int .i64 b] S (fun v S' => Keep S S' ∧ v = .int .i64 (rclE V L n a b)) := by
 refine cc_enter (c := cd57) (n := 54) Tryz.func57 rfl rfl rfl (by kernel_rfl) rfl rfl ?_
 have hl := Hold.start S
 refine zg ?_; refine re_boxL hl rfl rfl rfl rfl rfl rfl ?_; intro B5 S5 hl; refine zg ?_
 refine zc hl rfl (spec80 aV aS cV cS V L n s aw cw (hl.keep.3 hF) (hs.move (hl.since 0 rfl)) hsn (hiv.move (hl.since 0 rfl))) ?_; rintro v T1 hk1 ⟨w1, w2, rfl, hw1, hw2⟩ hl
 have hl := hl.mark
 obtain ⟨a1, c1, rfl⟩ := LsOf.is hw1
 obtain ⟨a2, c2, rfl⟩ := LsOf.is hw2
 have hn8 := hs.hn
 have hcl := ch_len (V := V) (L := L) (n := n) V.length 0
 have hC8 : ((chE V L n).map (·.2)).length ≤ 8 := by rw [List.length_map]; exact Nat.le_trans hcl hn8
 have hpC : ∀ p, p ∈ ((chE V L n).map (·.2)) → pB p = false := fun p hp => ch_pv hpv V.length 0 p hp
 have hWl : ((chE V L n).map (·.1)).length = ((chE V L n).map (·.2)).length := by rw [List.length_map, List.length_map]
 obtain ⟨C, hCe⟩ : ∃ C, C = ((chE V L n).map (·.2)) := ⟨_, rfl⟩
 obtain ⟨W, hWe⟩ : ∃ W, W = ((chE V L n).map (·.1)) := ⟨_, rfl⟩
 have hr0 : rclE V L n a b = rcF W a b (clE C) := by rw [hCe, hWe]; rfl
 rw [← hCe] at hw2 hC8 hpC hWl
 rw [← hWe] at hw1 hWl
 rw [hr0, ← hCe, ← hWe]
 clear hr0 hCe hWe
 refine zg ?_
 refine zc hl rfl (spec81 a2 c2 C (hl.keep.3 hF) hC8 hpC (hw2.move (hl.since 0 rfl))) ?_; rintro v T2 hk2 ⟨ak, rfl, hgk⟩ hl
 have hl := hl.mark
 have hK : Cls T2 (.slice ak (clE C).length (clE C).length) (clE C) := Grow.ls (fun _ => rfl) hgk
 have hbd := fun c hc => clO_bd (low := (nth C (bsE C)).getD p0) (C := C) C 0 c hc
 have hKl := clO_len (low := (nth C (bsE C)).getD p0) (C := C) C 0
 obtain ⟨K, hKe⟩ : ∃ K, K = clE C := ⟨_, rfl⟩
 have hKl : K.length ≤ 64 := by rw [hKe]; exact Nat.le_trans hKl (Nat.mul_le_mul hC8 hC8)
 have hbd : ∀ c, c ∈ K → ((0 : Int) ≤ c.a ∧ c.a < ((0 + C.length : Nat) : Int)) ∧ 0 ≤ c.b ∧ c.b < (C.length : Int) := fun c hc => hbd c (by rw [hKe] at hc; exact hc)
 rw [← hKe] at hK ⊢
 clear hKe hgk
 refine zA ?_; refine xp_seq rfl ?_; refine zS ?_; refine xp_block rfl ?_
 -- LOOP
 refine xe_sub (L' := [(12, .int .i64 0), (11, .slice ak K.length K.length), (9, .slice a1 W.length c1), (8, .int .i64 0), (2, .int .i64 a), (3, .int .i64 b)]) ⟨rfl, rfl, rfl, rfl, rfl, rfl, trivial⟩ ?_
 refine xp_loop rfl (fun m Le S' => ∃ i : Nat, i ≤ K.length ∧ m = K.length - i ∧ rcF W a b (K.drop i) = rcF W a b K ∧ SubE [(12, .int .i64 (i : Int)), (11, .slice ak K.length K.length), (9, .slice a1 W.length c1), (8, .int .i64 0), (2, .int .i64 a), (3, .int .i64 b)] Le ∧ HoldG S [T2, T1, S] S' [] []) ?_ (m := K.length) ⟨0, by omega, rfl, rfl, ⟨rfl, rfl, rfl, rfl, rfl, rfl, trivial⟩, hl.tail⟩
 clear hl; rintro m Le S' ⟨i, hi, rfl, hin, hsub, hl⟩; refine xe_sub hsub ?_
 refine zg ?_
 constructor <;> intro h24
 ·
  have hlt : i < K.length := by have := of_decide_eq_true h24; omega
  obtain ⟨x, hx⟩ := nth_some hlt
  obtain ⟨⟨hb1, hb2⟩, hb3, hb4⟩ := hbd x (nth_mem hx)
  obtain ⟨b1, o1, cs1, ha, _, hrow, htk⟩ := hK.elem hx
  obtain ⟨p, hp⟩ := nth_some (l := W) (i := x.a.toNat) (by omega)
  obtain ⟨q, hq⟩ := nth_some (l := W) (i := x.b.toNat) (by omega)
  obtain ⟨b2, o2, cs2, ha2, _, hrow2, htk2⟩ := hw1.elem hp
  obtain ⟨b3, o3, cs3, ha3, _, hrow3, htk3⟩ := hw1.elem hq
  rw [drop_nth' hx] at hin
  have hpa : (nth W x.a.toNat).getD 0 = p := by rw [hp]; rfl
  have hqb : (nth W x.b.toNat).getD 0 = q := by rw [hq]; rfl
  refine xp_skip rfl ?_; refine xp_seq rfl ?_; refine xp_block rfl ?_; refine xp_seq rfl (xe_toE hl 48 (.bool (rxB W a b x)) ?_ rfl ?_)
  ·
   refine zg ?_; refine re_bool (d := 37) rfl (fun h37 => ?_) (fun h37 => ?_)
   ·
    refine zg ?_
    exact ⟨rfl, bl (by unfold rxB; rw [hpa, hqb, h37]; rfl), sB, hl⟩
   ·
    refine zg ?_
    exact ⟨rfl, bl (by unfold rxB; rw [hpa, h37]; rfl), sB, hl⟩
  intro S1 hl
  refine zg ?_
  constructor <;> intro h48
  ·
   refine zg ?_
   refine blk_ret (thn_ret (round_ret (blk_ret ((z1 rfl ⟨hl.keep, congrArg (Value.int .i64) (by rw [← hin, rcF_1 h48])⟩)))))
  ·
   refine zg ?_
   exact ⟨K.length - (i + 1), by omega, i + 1, by omega, rfl, by rw [← hin, rcF_2 h48], ⟨rfl, rfl, rfl, rfl, rfl, rfl, trivial⟩, hl⟩
 ·
  refine zg ?_
  refine y1 rfl ⟨hl.keep, congrArg (Value.int .i64) (by rw [← hin, List.drop_eq_nil_of_le (by have := of_decide_eq_false h24; omega)]; rfl)⟩
end Go.Proofs.YtgiibikieblicaaGreatDoor
namespace Go.Proofs.YtgiibikieblicaaGreatDoor
open Go.Cm Go
set_option maxRecDepth 100000
variable {S : St}
def rclM (V : List (List Ev)) (L : List Sl) (n mv hh : Nat) : Int := rclE V L n (minI (mv : Int) (hh : Int)) (maxI (mv : Int) (hh : Int))
def rssB (V : List (List Ev)) (L : List Sl) (n mv hh : Nat) : Bool := (((((n : Int) == 0) || (evI L (n - 1) hh != evI L n hh)) || (rclM V L (n - 1) mv hh != 0)) || (rsE V hh (evI L n hh) != -1))
def rsuG (V : List (List Ev)) (L : List Sl) (mv hh : Nat) (m h : Int) : Nat → Nat → Bool
 | 0, _ => false
 | f + 1, k => bif evI L k hh == h + 1 then (evI L k mv == m) && (rclM V L k mv hh == 0) else rsuG V L mv hh m h f (k + 1)
def rsuE (V : List (List Ev)) (L : List Sl) (n mv hh : Nat) : Bool := bif rssB V L n mv hh then false else rsuG V L mv hh (evI L n mv) (evI L n hh) (L.length - (n + 1)) (n + 1)
section
variable {V : List (List Ev)} {L : List Sl} {n mv hh k : Nat} {m h : Int}
theorem rsu_1 (hb : rssB V L n mv hh = true) : rsuE V L n mv hh = false := by unfold rsuE; rw [hb]; rfl
theorem rsu_2 (hb : rssB V L n mv hh = false) : rsuE V L n mv hh = rsuG V L mv hh (evI L n mv) (evI L n hh) (L.length - (n + 1)) (n + 1) := by unfold rsuE; rw [hb]; rfl
theorem rsuG_1 (hk : k < L.length) (hb : (evI L k hh == h + 1) = true) : rsuG V L mv hh m h (L.length - k) k = ((evI L k mv == m) && (rclM V L k mv hh == 0)) := by
 rw [show L.length - k = (L.length - (k + 1)) + 1 by omega, rsuG, hb]; rfl
theorem rsuG_2 (hk : k < L.length) (hb : (evI L k hh == h + 1) = false) : rsuG V L mv hh m h (L.length - k) k = rsuG V L mv hh m h (L.length - (k + 1)) (k + 1) := by
 rw [show L.length - k = (L.length - (k + 1)) + 1 by omega, rsuG, hb]; rfl
def ronB (V : List (List Ev)) (L : List Sl) (mv hh : Nat) (m : Int) (k : Nat) : Bool := (evI L k mv == m) && (rclM V L k mv hh == 0)
end
noncomputable def cd85 : Code := Tryz.f85.body.getD .skip
theorem spec85 (aV aS : Option Addr) (cV cS : Nat) (V : List (List Ev)) (L : List Sl) (n mv hh : Nat) (hF : Fresh S) (hs : SetAt S aV aS cV cS V L) (hpv : PVl V) (hlo : ∀ n v, -1 ≤ evI L n v) (hnn : n < L.length) (hmv : mv < V.length) (hhh : hh < V.length) : CC Tryz.prog KK 85 [.slice aV V.length cV, .slice aS L.length cS, .int .i64 (n : Int), .int .i64 (mv : Int), .int .i64 (hh : Int)] S (fun v S' => Keep S S' ∧ v = .bool (rsuE V L n mv hh)) := by
 refine cc_enter (c := cd85) (n := 114) Tryz.func85 rfl rfl rfl (by kernel_rfl) rfl rfl ?_
 have hl := Hold.start S
 obtain ⟨s1, hsn1⟩ := nth_some (l := L) (i := n) (by omega)
 obtain ⟨b1, o1, cs1, aw1, cw1, ha1, _, hrow1, htk1, hiv1⟩ := hs.sl.elem hsn1
 obtain ⟨hwl1, hwi1⟩ := hs.wf _ s1 hsn1
 obtain ⟨im1, him1⟩ := nth_some (l := s1.ev) (i := mv) (by omega)
 obtain ⟨bm1, om1, csm1, ham1, _, hrowm1, htkm1⟩ := hiv1.elem him1
 have heim1 := evI_at hsn1 him1
 obtain ⟨ih1, hih1⟩ := nth_some (l := s1.ev) (i := hh) (by omega)
 obtain ⟨bh1, oh1, csh1, hah1, _, hrowh1, htkh1⟩ := hiv1.elem hih1
 have heih1 := evI_at hsn1 hih1
 obtain ⟨xh, hxh⟩ := nth_some hhh
 obtain ⟨bvh, ovh, csvh, axh, cxh, havh, _, hrowvh, htkvh, hvxh⟩ := hs.vs.elem hxh
 have hxlh := hs.hV xh (nth_mem hxh)
 have hL := hs.hL
 have hih := hwi1 hh ih1 xh hih1 hxh
 have hlo1 := hlo n hh
 rw [heih1] at hlo1
 refine zg ?_; refine re_builtin (v := .int .i64 (minI (mv : Int) (hh : Int))) rfl rfl rfl rfl rfl rfl rfl rfl ?_; refine zg ?_; refine re_builtin (v := .int .i64 (maxI (mv : Int) (hh : Int))) rfl rfl rfl rfl rfl rfl rfl rfl ?_; refine zg ?_; refine xp_draw (idx := [0, 1, 2, 3, 4, 5, 6, 7, 8, 9, 10, 11, 12, 13, 14, 15, 16, 17]) rfl (by kernel_rfl) (by kernel_rfl) ?_; refine zA ?_; refine xp_seq rfl ?_; refine xp_seq rfl (xe_toE hl 73 (.bool (rssB V L n mv hh)) ?_ rfl ?_)
 ·
  refine zg ?_; refine re_bool (d := 40) rfl (fun h40 => ?_) (fun h40 => ?_)
  ·
   refine zg ?_
   exact ⟨rfl, bl (by unfold rssB; rw [heih1, h40]; first | rfl | (unfold rclM; rw [h65]; rfl)), sB, hl⟩
  ·
   have hn0 : n ≠ 0 := by rintro rfl; cases h40
   have hn1 : 1 ≤ n := by omega
   obtain ⟨s0, hsn0⟩ := nth_some (l := L) (i := (n - 1)) (by omega)
   obtain ⟨b0, o0, cs0, aw0, cw0, ha0, _, hrow0, htk0, hiv0⟩ := hs.sl.elem hsn0
   obtain ⟨hwl0, hwi0⟩ := hs.wf _ s0 hsn0
   obtain ⟨ih0, hih0⟩ := nth_some (l := s0.ev) (i := hh) (by omega)
   obtain ⟨bh0, oh0, csh0, hah0, _, hrowh0, htkh0⟩ := hiv0.elem hih0
   have heih0 := evI_at hsn0 hih0
   iterate 2 refine rm rfl ?_
   refine rr rfl (rd_bin rfl rfl rfl (congrArg some (congrArg (Value.int .i64) ((IntWalk.i64_in _ (by omega)).trans (show ((n : Int) - 1) = ((n - 1 : Nat) : Int) by omega))))) ?_; refine zg ?_; refine re_bool (d := 53) rfl (fun h53 => ?_) (fun h53 => ?_)
   ·
    refine zg ?_
    exact ⟨rfl, bl (by unfold rssB; rw [heih1, heih0, h40, h53]; first | rfl | (unfold rclM; rw [h65]; rfl)), sB, hl⟩
   ·
    iterate 3 refine rm rfl ?_
    refine rr rfl (rd_bin rfl rfl rfl (congrArg some (congrArg (Value.int .i64) ((IntWalk.i64_in _ (by omega)).trans (show ((n : Int) - 1) = ((n - 1 : Nat) : Int) by omega))))) ?_; refine zg ?_
    refine zc hl rfl (spec57 aV aS cV cS V L (n - 1) s0 aw0 cw0 (minI (mv : Int) (hh : Int)) (maxI (mv : Int) (hh : Int)) (hl.keep.3 hF) (hs.move (hl.since 0 rfl)) hpv hsn0 (hiv0.move (hl.since 0 rfl))) ?_; rintro v S1 hk1 rfl hl
    refine zg ?_; refine re_bool (d := 65) rfl (fun h65 => ?_) (fun h65 => ?_)
    ·
     refine zg ?_
     exact ⟨rfl, bl (by unfold rssB rclM; rw [heih1, heih0, h40, h53, h65]; rfl), sB, hl⟩
    ·
     refine zg ?_
     refine zc hl rfl (spec112 axh cxh V hh xh ih1 hxh hxlh (hvxh.move (hl.since 0 rfl)) (by omega) (by omega)) ?_; rintro v S1 hk1 rfl hl
     refine zg ?_
     exact ⟨rfl, bl (by unfold rssB rclM; rw [heih1, heih0, h40, h53, h65]; rfl), sB, hl⟩
 intro S1 hl
 refine zg ?_
 constructor <;> intro h73
 ·
  refine zg ?_
  exact (z1 rfl ⟨hl.keep, by rw [rsu_1 h73] <;> rfl⟩)
 ·
  refine xp_skip rfl ?_; refine xp_seq rfl ?_; refine zS ?_; refine xp_block rfl ?_
  -- LOOP
  refine xe_sub (L' := [(15, .int .i64 ((n : Int) + 1)), (14, .int .i64 im1), (13, .int .i64 ih1), (12, .int .i64 (maxI (mv : Int) (hh : Int))), (11, .int .i64 (minI (mv : Int) (hh : Int))), (10, .bool false), (0, .slice aV V.length cV), (1, .slice aS L.length cS), (3, .int .i64 (mv : Int)), (4, .int .i64 (hh : Int))]) ⟨rfl, rfl, rfl, rfl, rfl, rfl, rfl, rfl, rfl, rfl, trivial⟩ ?_
  refine xp_loop rfl (fun m Le S' => ∃ k : Nat, n + 1 ≤ k ∧ k ≤ L.length ∧ m = L.length - k ∧ rsuG V L mv hh im1 ih1 (L.length - k) k = rsuE V L n mv hh ∧ SubE [(15, .int .i64 (k : Int)), (14, .int .i64 im1), (13, .int .i64 ih1), (12, .int .i64 (maxI (mv : Int) (hh : Int))), (11, .int .i64 (minI (mv : Int) (hh : Int))), (10, .bool false), (0, .slice aV V.length cV), (1, .slice aS L.length cS), (3, .int .i64 (mv : Int)), (4, .int .i64 (hh : Int))] Le ∧ HoldG S [S] S' [] []) ?_ (m := L.length - (n + 1)) ⟨n + 1, Nat.le_refl _, hnn, rfl, by rw [rsu_2 h73, heim1, heih1], ⟨rfl, rfl, rfl, rfl, rfl, rfl, rfl, rfl, rfl, rfl, trivial⟩, hl⟩
  clear hl; rintro m Le S' ⟨k, hnk, hkl, rfl, hin, hsub, hl⟩; refine xe_sub hsub ?_
  refine zg ?_
  constructor <;> intro h79
  ·
   have hlt : k < L.length := by have := of_decide_eq_true h79; omega
   obtain ⟨s2, hsn2⟩ := nth_some (l := L) (i := k) (by omega)
   obtain ⟨b2, o2, cs2, aw2, cw2, ha2, _, hrow2, htk2, hiv2⟩ := hs.sl.elem hsn2
   obtain ⟨hwl2, hwi2⟩ := hs.wf _ s2 hsn2
   obtain ⟨ih2, hih2⟩ := nth_some (l := s2.ev) (i := hh) (by omega)
   obtain ⟨bh2, oh2, csh2, hah2, _, hrowh2, htkh2⟩ := hiv2.elem hih2
   have heih2 := evI_at hsn2 hih2
   obtain ⟨im2, him2⟩ := nth_some (l := s2.ev) (i := mv) (by omega)
   obtain ⟨bm2, om2, csm2, ham2, _, hrowm2, htkm2⟩ := hiv2.elem him2
   have heim2 := evI_at hsn2 him2
   refine xp_skip rfl ?_; refine xp_seq rfl ?_; refine xp_block rfl ?_; refine zS ?_; refine zi tt rfl ?_
   constructor <;> intro h92
   ·
    refine xe_sub (L' := [(15, .int .i64 (k : Int)), (14, .int .i64 im1), (13, .int .i64 ih1), (12, .int .i64 (maxI (mv : Int) (hh : Int))), (11, .int .i64 (minI (mv : Int) (hh : Int))), (0, .slice aV V.length cV), (1, .slice aS L.length cS), (3, .int .i64 (mv : Int)), (4, .int .i64 (hh : Int))]) ⟨rfl, rfl, rfl, rfl, rfl, rfl, rfl, rfl, rfl, trivial⟩ ?_; refine xp_seq rfl (xe_toE hl 10 (.bool (ronB V L mv hh im1 k)) ?_ rfl ?_)
    ·
     refine zg ?_; refine re_bool (d := 103) rfl (fun h103 => ?_) (fun h103 => ?_)
     ·
      refine zg ?_
      refine zc hl rfl (spec57 aV aS cV cS V L k s2 aw2 cw2 (minI (mv : Int) (hh : Int)) (maxI (mv : Int) (hh : Int)) (hl.keep.3 hF) (hs.move (hl.since 0 rfl)) hpv hsn2 (hiv2.move (hl.since 0 rfl))) ?_; rintro v S1 hk1 rfl hl
      refine zg ?_
      exact ⟨rfl, bl (by unfold ronB rclM; rw [heim2, h103]; rfl), sB, hl⟩
     ·
      refine zg ?_
      exact ⟨rfl, bl (by unfold ronB; rw [heim2, h103]; rfl), sB, hl⟩
    intro S1 hl
    refine zg ?_
    refine blk_ret (thn_ret (round_ret (blk_ret ((z1 rfl ⟨hl.keep, by rw [← hin, rsuG_1 hlt (by rw [heih2]; exact h92)] <;> rfl⟩)))))
   ·
    refine zg ?_
    exact ⟨L.length - (k + 1), by omega, k + 1, by omega, by omega, rfl, by rw [← hin, rsuG_2 hlt (by rw [heih2]; exact h92)], ⟨rfl, rfl, rfl, rfl, rfl, rfl, rfl, rfl, rfl, rfl, trivial⟩, hl⟩
  ·
   refine zg ?_
   refine y1 rfl ⟨hl.keep, by rw [← hin, show L.length - k = 0 by have := of_decide_eq_false h79; omega] <;> rfl⟩
end Go.Proofs.YtgiibikieblicaaGreatDoor
namespace Go.Proofs.YtgiibikieblicaaGreatDoor
open Go.Cm Go
set_option maxRecDepth 100000
variable {S : St}
def rtrT (V : List (List Ev)) (L : List Sl) (n mv hh : Nat) : Int := bif rpaB V mv (evI L n mv) then 1 else bif rtuB V mv (evI L n mv) then 2 else bif rsuE V L n mv hh then 3 else 4
def rtrE (V : List (List Ev)) (L : List Sl) (n a b : Nat) : Int := bif stB V L n a == stB V L n b then 4 else bif stB V L n b then rtrT V L n b a else rtrT V L n a b
section
variable {V : List (List Ev)} {L : List Sl} {n a b mv hh : Nat}
theorem rtr_0 (h : (stB V L n a == stB V L n b) = true) : rtrE V L n a b = 4 := by unfold rtrE; rw [h]; rfl
theorem rtr_b (h : (stB V L n a == stB V L n b) = false) (h2 : stB V L n b = true) : rtrE V L n a b = rtrT V L n b a := by unfold rtrE; rw [h, h2]; rfl
theorem rtr_a (h : (stB V L n a == stB V L n b) = false) (h2 : stB V L n b = false) : rtrE V L n a b = rtrT V L n a b ∧ stB V L n a = true := by
 refine ⟨by unfold rtrE; rw [h, h2]; rfl, ?_⟩
 rw [h2] at h
 cases h3 : stB V L n a with
 | true => rfl
 | false => rw [h3] at h; cases h
theorem rst_pos (h : stB V L n mv = true) : 0 ≤ evI L n mv := by
 unfold stB at h
 rw [Bool.and_eq_true] at h
 exact of_decide_eq_true h.1
theorem rtrT_1 (h : rpaB V mv (evI L n mv) = true) : rtrT V L n mv hh = 1 := by unfold rtrT; rw [h]; rfl
theorem rtrT_2 (h : rpaB V mv (evI L n mv) = false) (h2 : rtuB V mv (evI L n mv) = true) : rtrT V L n mv hh = 2 := by unfold rtrT; rw [h, h2]; rfl
theorem rtrT_3 (h : rpaB V mv (evI L n mv) = false) (h2 : rtuB V mv (evI L n mv) = false) (h3 : rsuE V L n mv hh = true) : rtrT V L n mv hh = 3 := by unfold rtrT; rw [h, h2, h3]; rfl
theorem rtrT_4 (h : rpaB V mv (evI L n mv) = false) (h2 : rtuB V mv (evI L n mv) = false) (h3 : rsuE V L n mv hh = false) : rtrT V L n mv hh = 4 := by unfold rtrT; rw [h, h2, h3]; rfl
end
noncomputable def cd58 : Code := Tryz.f58.body.getD .skip
theorem spec58 (aV aS : Option Addr) (cV cS : Nat) (V : List (List Ev)) (L : List Sl) (n a b : Nat) (hF : Fresh S) (hs : SetAt S aV aS cV cS V L) (hpv : PVl V) (hlo : ∀ n v, -1 ≤ evI L n v) (hnn : n < L.length) (hav : a < V.length) (hbv : b < V.length) : CC Tryz.prog KK 58 [.slice aV V.length cV, .slice aS L.length cS, .int .i64 (n : Int), .int .i64 (a : Int), .int .i64 (b : Int)] S (fun v S' => Keep S S' ∧ v = .int .i64 (rtrE V L n a b)) := by
 refine cc_enter (c := cd58) (n := 67) Tryz.func58 rfl rfl rfl (by kernel_rfl) rfl rfl ?_
 have hl := Hold.start S
 obtain ⟨s1, hsn1⟩ := nth_some (l := L) (i := n) (by omega)
 obtain ⟨b1, o1, cs1, aw1, cw1, ha1, _, hrow1, htk1, hiv1⟩ := hs.sl.elem hsn1
 obtain ⟨hwl1, hwi1⟩ := hs.wf _ s1 hsn1
 refine zg ?_; refine xp_draw (idx := [0, 1, 2, 3, 4, 5, 7, 8, 9, 10, 11, 12, 6, 13, 14, 15]) rfl (by kernel_rfl) (by kernel_rfl) ?_; refine zg ?_
 refine zp hl rfl (spec82 aV aS cV cS V L n s1 aw1 cw1 a (hs.move (hl.since 0 rfl)) hsn1 (hiv1.move (hl.since 0 rfl)) hav) ?_; rintro v S1 hk1 rfl hl; refine ⟨zt, ?_⟩
 refine zp hl rfl (spec82 aV aS cV cS V L n s1 aw1 cw1 b (hs.move (hl.since 0 rfl)) hsn1 (hiv1.move (hl.since 0 rfl)) hbv) ?_; rintro v S1 hk1 rfl hl; refine ⟨zt, ?_⟩
 refine zg ?_
 constructor <;> intro h32
 ·
  refine zg ?_
  exact (z1 rfl ⟨hl.keep, by rw [rtr_0 h32] <;> rfl⟩)
 ·
  refine xp_skip rfl ?_; refine zS ?_; refine xp_seq rfl (xe_cut (fun Le S' => ∃ mv hh : Nat, (mv < V.length ∧ hh < V.length) ∧ stB V L n mv = true ∧ rtrE V L n a b = rtrT V L n mv hh ∧ SubE [(14, .int .i64 (hh : Int)), (13, .int .i64 (mv : Int)), (10, .int .i64 0), (0, .slice aV V.length cV), (1, .slice aS L.length cS), (2, .int .i64 (n : Int))] Le ∧ HoldG S [S] S' [] []) ?_ ?_)
  ·
   refine zg ?_
   constructor <;> intro h35
   ·
    refine zg ?_
    exact ⟨rfl, b, a, ⟨hbv, hav⟩, h35, rtr_b h32 h35, ⟨rfl, rfl, rfl, rfl, rfl, rfl, trivial⟩, hl⟩
   ·
    refine zg ?_
    exact ⟨rfl, a, b, ⟨hav, hbv⟩, (rtr_a h32 h35).2, (rtr_a h32 h35).1, ⟨rfl, rfl, rfl, rfl, rfl, rfl, trivial⟩, hl⟩
  clear hl; rintro Le3 S1 ⟨mv, hh, ⟨hmv, hhh⟩, hst, hr, hsub3, hl⟩; refine xe_sub hsub3 ?_
  obtain ⟨im1, him1⟩ := nth_some (l := s1.ev) (i := mv) (by omega)
  obtain ⟨bm1, om1, csm1, ham1, _, hrowm1, htkm1⟩ := hiv1.elem him1
  have heim1 := evI_at hsn1 him1
  obtain ⟨xm, hxm⟩ := nth_some hmv
  obtain ⟨bvm, ovm, csvm, axm, cxm, havm, _, hrowvm, htkvm, hvxm⟩ := hs.vs.elem hxm
  have hxlm := hs.hV xm (nth_mem hxm)
  have hp0 := rst_pos hst
  rw [heim1] at hp0
  have hil := hwi1 mv im1 xm him1 hxm
  rw [hr]
  refine zg ?_
  refine zc hl rfl (spec83 axm cxm V mv xm im1 hxm hxlm (hvxm.move (hl.since 0 rfl)) hp0 (by omega)) ?_; rintro v S1 hk1 rfl hl
  refine zg ?_
  constructor <;> intro h46
  ·
   refine zg ?_
   refine blk_ret ((z1 rfl ⟨hl.keep, by rw [rtrT_1 (by rw [heim1]; exact h46)] <;> rfl⟩))
  ·
   refine zg ?_
   refine zc hl rfl (spec84 axm cxm V mv xm im1 hxm hxlm (hvxm.move (hl.since 0 rfl)) hp0 (by omega)) ?_; rintro v S1 hk1 rfl hl
   refine zg ?_
   constructor <;> intro h53
   ·
    refine zg ?_
    refine blk_ret ((z1 rfl ⟨hl.keep, by rw [rtrT_2 (by rw [heim1]; exact h46) (by rw [heim1]; exact h53)] <;> rfl⟩))
   ·
    refine zg ?_
    refine zc hl rfl (spec85 aV aS cV cS V L n mv hh (hl.keep.3 hF) (hs.move (hl.since 0 rfl)) hpv hlo hnn hmv hhh) ?_; rintro v S1 hk1 rfl hl
    refine zg ?_
    constructor <;> intro h60
    ·
     refine zg ?_
     refine blk_ret ((z1 rfl ⟨hl.keep, by rw [rtrT_3 (by rw [heim1]; exact h46) (by rw [heim1]; exact h53) h60] <;> rfl⟩))
    ·
     refine zg ?_
     refine y1 rfl ⟨hl.keep, by rw [rtrT_4 (by rw [heim1]; exact h46) (by rw [heim1]; exact h53) h60] <;> rfl⟩
end Go.Proofs.YtgiibikieblicaaGreatDoor
namespace Go.Proofs.YtgiibikieblicaaGreatDoor
open Go.Cm Go
set_option maxRecDepth 100000
variable {S : St}
def kr4 (p : Mt4) : Value := aggL [.int .i64 p.1, .int .i64 p.2.2.1, .int .i64 p.2.1, .int .i64 p.2.2.2]
theorem kr4_eq (a b : Mt4) : eqV Tryz.prog eqDepth 59 (kr4 a) (kr4 b) = some (decide (a = b)) := by
 have h : eqV Tryz.prog 40 59 (aggL [.int .i64 a.1, .int .i64 a.2.2.1, .int .i64 a.2.1, .int .i64 a.2.2.2]) (aggL [.int .i64 b.1, .int .i64 b.2.2.1, .int .i64 b.2.1, .int .i64 b.2.2.2]) = some ((a.1 == b.1) && ((a.2.2.1 == b.2.2.1) && ((a.2.1 == b.2.1) && ((a.2.2.2 == b.2.2.2) && true)))) :=
  eq_array (n := 1) Tryz.underlying59 (by kernel_rfl) (eqElems_cons (part1 (by kernel_rfl) rfl) (part1 (by kernel_rfl) rfl) (eq_int Tryz.underlying3) (eqElems_cons (part1 (by kernel_rfl) rfl) (part1 (by kernel_rfl) rfl) (eq_int Tryz.underlying3) (eqElems_cons (part1 (by kernel_rfl) rfl) (part1 (by kernel_rfl) rfl) (eq_int Tryz.underlying3) (eqElems_cons (part1 (by kernel_rfl) rfl) (part1 (by kernel_rfl) rfl) (eq_int Tryz.underlying3) rfl))))
 refine h.trans (congrArg some ?_)
 obtain ⟨a1, a2, a3, a4⟩ := a
 obtain ⟨b1, b2, b3, b4⟩ := b
 rw [Bool.eq_iff_iff]
 simp
 intro _
 exact ⟨fun ⟨h2, h3, h4⟩ => ⟨h3, h2, h4⟩, fun ⟨h2, h3, h4⟩ => ⟨h3, h2, h4⟩⟩
theorem kr4_ok (p : Mt4) : keyOk Tryz.prog 20 59 (kr4 p) = true := by
 show keyOk Tryz.prog (19 + 1) 59 (aggL [.int .i64 p.1, .int .i64 p.2.2.1, .int .i64 p.2.1, .int .i64 p.2.2.2]) = true
 kernel_rfl
theorem kr4_pl (p : Mt4) : plainKey 20 (kr4 p) = true := rfl
theorem kr4_sm (p : Mt4) : sameV 1000 (kr4 p) (kr4 p) = true := by
 show sameV (999 + 1) (.agg _) (.agg _) = true
 unfold sameV
 exact sameL_atoms _ 999 (by decide : 4 < 999) (atoms_cons (atom_int _ _) (atoms_cons (atom_int _ _) (atoms_cons (atom_int _ _) (atoms_cons (atom_int _ _) atoms_nil))))
def kB (D : MD) : List (Mt4 × Value) := D.map fun p => (p.1, Value.bool true)
def hasK : MD → Mt4 → Bool
 | [], _ => false
 | (a, _) :: r, k => if k = a then true else hasK r k
theorem kB_put : ∀ (D : MD) (k : Mt4) (v : Int), putA (kB D) k (.bool true) = kB (putI D k v)
 | [], k, v => rfl
 | (a, w) :: r, k, v => by
  show putA ((a, Value.bool true) :: kB r) k _ = _
  unfold putA putI
  by_cases h : k = a
  ·rw [if_pos h, if_pos h]; rfl
  ·rw [if_neg h, if_neg h, kB_put r k v]; rfl
theorem kB_get : ∀ (D : MD) (k : Mt4), (asc (kB D) k).getD (.bool false) = .bool (hasK D k)
 | [], k => rfl
 | (a, w) :: r, k => by
  have ih := kB_get r k
  show (asc ((a, Value.bool true) :: kB r) k).getD _ = _
  unfold hasK
  unfold asc at ih ⊢
  unfold posA
  by_cases h : k = a
  ·rw [if_pos h, if_pos h]; rfl
  ·rw [if_neg h, if_neg h, ← ih]
   cases posA (kB r) k <;> rfl
section
variable (V : List (List Ev)) (L : List Sl)
def rskB (n a b : Nat) (D : MD) : Bool := (rclE V L n (a : Int) (b : Int) == 0) || hasK D (keyE L n a b)
def ralS (n a b : Nat) (q : MD × List Ds) : MD × List Ds := bif rskB V L n a b q.1 then q else (putI q.1 (keyE L n a b) ((n : Int) + 1), q.2 ++ [⟨n, a, b, rclE V L n (a : Int) (b : Int), rtrE V L n a b⟩])
def ralB (n a : Nat) : Nat → Nat → MD × List Ds → MD × List Ds
 | 0, _, q => q
 | f + 1, b, q => ralB n a f (b + 1) (ralS V L n a b q)
def ralA (n : Nat) : Nat → Nat → MD × List Ds → MD × List Ds
 | 0, _, q => q
 | f + 1, a, q => ralA n f (a + 1) (ralB V L n a (V.length - (a + 1)) (a + 1) q)
def ralL : Nat → Nat → MD × List Ds → MD × List Ds
 | 0, _, q => q
 | f + 1, n, q => ralL f (n + 1) (ralA V L n V.length 0 q)
def rdsE : List Ds := (ralL V L L.length 0 ([], [])).2
end
section
variable {V : List (List Ev)} {L : List Sl} {n a b : Nat}
theorem ralS_1 {D : MD} {O : List Ds} (h : rskB V L n a b D = true) : ralS V L n a b (D, O) = (D, O) := by unfold ralS; rw [h]; rfl
theorem ralS_2 {D : MD} {O : List Ds} (h : rskB V L n a b D = false) : ralS V L n a b (D, O) = (putI D (keyE L n a b) ((n : Int) + 1), O ++ [⟨n, a, b, rclE V L n (a : Int) (b : Int), rtrE V L n a b⟩]) := by unfold ralS; rw [h]; rfl
theorem rds_end {S S' : St} {D : MD} {O : List Ds} {ao : Option Addr} {q : Nat} (hp : ralL V L (L.length - q) q (D, O) = ralL V L L.length 0 ([], [])) (h : L.length ≤ q) (hg : Grow S S' (gOf 66 5 Ds.cells (.slice ao O.length O.length) O)) : ∃ av, (tupV [.slice ao O.length O.length] : Value) = .slice av (rdsE V L).length (rdsE V L).length ∧ Grow S S' (gOf 66 5 Ds.cells (.slice av (rdsE V L).length (rdsE V L).length) (rdsE V L)) := by
 rw [show L.length - q = 0 by omega] at hp
 have he : rdsE V L = O := congrArg Prod.snd hp.symm
 rw [he]
 exact ⟨ao, rfl, hg⟩
end
noncomputable def cd38 : Code := Tryz.f38.body.getD .skip
theorem spec38 (aV aS : Option Addr) (cV cS : Nat) (V : List (List Ev)) (L : List Sl)  (hF : Fresh S) (hs : SetAt S aV aS cV cS V L) (hpv : PVl V) (hlo : ∀ n v, -1 ≤ evI L n v) : CC Tryz.prog KK 38 [.slice aV V.length cV, .slice aS L.length cS] S (fun v S' => Keep S S' ∧ ∃ av, v = .slice av (rdsE V L).length (rdsE V L).length ∧ Grow S S' (gOf 66 5 Ds.cells (.slice av (rdsE V L).length (rdsE V L).length) (rdsE V L))) := by
 refine cc_enter (c := cd38) (n := 84) Tryz.func38 rfl rfl rfl (by kernel_rfl) rfl rfl ?_
 have hl := Hold.start S
 have hLL := hs.hL
 have hVn := hs.hn
 refine zg ?_; refine re_makeMapL hl kr4 rfl rfl rfl rfl rfl ?_; intro B12 S12 hl; refine zA ?_; refine xp_seq rfl ?_; refine zS ?_; refine xp_block rfl ?_
 -- LOOP
 have hl := hl.addG (g := gOf 66 5 Ds.cells (.slice none 0 0) []) (.inl ⟨rfl, rfl, rfl⟩)
 refine xe_sub (L' := [(7, .int .i64 0), (6, .map (some B12)), (5, .slice none ([] : List Ds).length ([] : List Ds).length), (4, .slice none 0 0), (0, .slice aV V.length cV), (1, .slice aS L.length cS)]) ⟨rfl, rfl, rfl, rfl, rfl, rfl, trivial⟩ ?_
 refine xp_loop rfl (fun m Le S' => ∃ (n : Nat) (D : MD) (O : List Ds) (ao : Option Addr), n ≤ L.length ∧ m = L.length - n ∧ O.length ≤ 64 * n ∧ ralL V L (L.length - n) n (D, O) = ralL V L L.length 0 ([], []) ∧ SubE [(7, .int .i64 (n : Int)), (6, .map (some B12)), (5, .slice ao O.length O.length), (4, .slice none 0 0), (0, .slice aV V.length cV), (1, .slice aS L.length cS)] Le ∧ HoldG S [S] S' [(B12, mapB kr4 (kB D))] [gOf 66 5 Ds.cells (.slice ao O.length O.length) O]) ?_ (m := L.length) ⟨0, [], [], none, by omega, rfl, by simp, rfl, ⟨rfl, rfl, rfl, rfl, rfl, rfl, trivial⟩, hl⟩
 clear hl; rintro m Le S' ⟨n, D0, O0, ao0, hn, rfl, hO0, hp0, hsub, hl⟩; refine xe_sub hsub ?_
 refine zg ?_
 constructor <;> intro h16
 ·
  have hnn : n < L.length := by have := of_decide_eq_true h16; omega
  obtain ⟨s1, hsn1⟩ := nth_some (l := L) (i := n) (by omega)
  obtain ⟨b1, o1, cs1, aw1, cw1, ha1, _, hrow1, htk1, hiv1⟩ := hs.sl.elem hsn1
  obtain ⟨hwl1, hwi1⟩ := hs.wf _ s1 hsn1
  rw [show L.length - n = (L.length - (n + 1)) + 1 by omega] at hp0
  refine xp_skip rfl ?_; refine xp_seq rfl ?_; refine xp_block rfl ?_; refine zS ?_; refine xp_block rfl ?_
  -- LOOP
  refine xe_sub (L' := [(8, .int .i64 0), (7, .int .i64 (n : Int)), (6, .map (some B12)), (5, .slice ao0 O0.length O0.length), (4, .slice none 0 0), (0, .slice aV V.length cV), (1, .slice aS L.length cS)]) ⟨rfl, rfl, rfl, rfl, rfl, rfl, rfl, trivial⟩ ?_
  refine xp_loop rfl (fun m Le S' => ∃ (a : Nat) (D : MD) (O : List Ds) (ao : Option Addr), a ≤ V.length ∧ m = V.length - a ∧ O.length ≤ 64 * n + 8 * a ∧ ralA V L n (V.length - a) a (D, O) = ralA V L n V.length 0 (D0, O0) ∧ SubE [(8, .int .i64 (a : Int)), (7, .int .i64 (n : Int)), (6, .map (some B12)), (5, .slice ao O.length O.length), (4, .slice none 0 0), (0, .slice aV V.length cV), (1, .slice aS L.length cS)] Le ∧ HoldG S [S] S' [(B12, mapB kr4 (kB D))] [gOf 66 5 Ds.cells (.slice ao O.length O.length) O]) ?_ (m := V.length) ⟨0, D0, O0, ao0, by omega, rfl, by omega, rfl, ⟨rfl, rfl, rfl, rfl, rfl, rfl, rfl, trivial⟩, hl⟩
  clear hl; rintro m Le S' ⟨a, D1, O1, ao1, han, rfl, hO1, hp1, hsub2, hl⟩; refine xe_sub hsub2 ?_
  refine zg ?_
  constructor <;> intro h22
  ·
   have hav : a < V.length := by have := of_decide_eq_true h22; omega
   obtain ⟨ia1, hia1⟩ := nth_some (l := s1.ev) (i := a) (by omega)
   obtain ⟨ba1, oa1, csa1, haa1, _, hrowa1, htka1⟩ := hiv1.elem hia1
   have heia1 := evI_at hsn1 hia1
   rw [show V.length - a = (V.length - (a + 1)) + 1 by omega] at hp1
   refine xp_skip rfl ?_; refine xp_seq rfl ?_; refine xp_block rfl ?_; refine zS ?_; refine xp_block rfl ?_
   -- LOOP
   refine xe_sub (L' := [(9, .int .i64 ((a : Int) + 1)), (8, .int .i64 (a : Int)), (7, .int .i64 (n : Int)), (6, .map (some B12)), (5, .slice ao1 O1.length O1.length), (4, .slice none 0 0), (0, .slice aV V.length cV), (1, .slice aS L.length cS)]) ⟨rfl, rfl, rfl, rfl, rfl, rfl, rfl, rfl, trivial⟩ ?_
   refine xp_loop rfl (fun m Le S' => ∃ (b : Nat) (D : MD) (O : List Ds) (ao : Option Addr), a + 1 ≤ b ∧ b ≤ V.length ∧ m = V.length - b ∧ O.length ≤ 64 * n + 8 * a + b ∧ ralB V L n a (V.length - b) b (D, O) = ralB V L n a (V.length - (a + 1)) (a + 1) (D1, O1) ∧ SubE [(9, .int .i64 (b : Int)), (8, .int .i64 (a : Int)), (7, .int .i64 (n : Int)), (6, .map (some B12)), (5, .slice ao O.length O.length), (4, .slice none 0 0), (0, .slice aV V.length cV), (1, .slice aS L.length cS)] Le ∧ HoldG S [S] S' [(B12, mapB kr4 (kB D))] [gOf 66 5 Ds.cells (.slice ao O.length O.length) O]) ?_ (m := V.length - (a + 1)) ⟨a + 1, D1, O1, ao1, Nat.le_refl _, hav, rfl, by show O1.length ≤ 64 * n + 8 * a + (a + 1); omega, rfl, ⟨rfl, rfl, rfl, rfl, rfl, rfl, rfl, rfl, trivial⟩, hl⟩
   clear hl; rintro m Le S' ⟨b, D, O, ao, hab, hbn, rfl, hO, hp, hsub3, hl⟩; refine xe_sub hsub3 ?_
   refine zg ?_
   constructor <;> intro h30
   ·
    have hbv : b < V.length := by have := of_decide_eq_true h30; omega
    obtain ⟨ib1, hib1⟩ := nth_some (l := s1.ev) (i := b) (by omega)
    obtain ⟨bb1, ob1, csb1, hab1, _, hrowb1, htkb1⟩ := hiv1.elem hib1
    have heib1 := evI_at hsn1 hib1
    have hke : keyE L n a b = ((a : Int), ia1, (b : Int), ib1) := by unfold keyE; rw [heia1, heib1]
    rw [show V.length - b = (V.length - (b + 1)) + 1 by omega] at hp
    refine zg ?_
    refine zc hl rfl (spec57 aV aS cV cS V L n s1 aw1 cw1 (a : Int) (b : Int) (hl.keep.3 hF) (hs.move (hl.since 0 rfl)) hpv hsn1 (hiv1.move (hl.since 0 rfl))) ?_; rintro v S1 hk1 rfl hl
    refine zg ?_; refine xp_draw (idx := [0, 1, 2, 3, 4, 5, 6, 7, 8, 9, 10, 11, 12, 13, 14, 15, 16, 17, 18, 19, 20]) rfl (by kernel_rfl) (by kernel_rfl) ?_; refine zg ?_; refine pr rfl (rd_build rfl rfl (v := aggL [.int .i64 (a : Int), .int .i64 (b : Int), .int .i64 ia1, .int .i64 ib1]) (by rfl)) ?_; refine rp_allocL hF hl rfl rfl rfl rfl rfl (z := [.int .i64 0, .int .i64 0, .int .i64 0, .int .i64 0]) (by kernel_rfl) ?_; intro B11 S11 hl
    refine rp_storeL hl 0 rfl rfl rfl rfl rfl rfl rfl (by kernel_rfl) rfl ?_; intro S1 hl; refine ⟨stays_all (by kernel_rfl), ?_⟩
    refine zA ?_; refine xp_seq rfl ?_; refine xp_seq rfl (xe_toE hl 66 (.bool (rskB V L n a b D)) ?_ rfl ?_)
    ·
     refine zg ?_; refine re_bool (d := 62) rfl (fun h62 => ?_) (fun h62 => ?_)
     ·
      refine zg ?_
      exact ⟨rfl, bl (by unfold rskB; rw [hke, h62]; rfl), sB, hl⟩
     ·
      refine zg ?_; refine rr rfl (rd_lookup rfl rfl rfl ((lookup_of (k := ((a : Int), ia1, (b : Int), ib1)) Tryz.underlying126 (hl.get 1 rfl) kr4_eq (kr4_ok _) (z := .bool false) (by kernel_rfl)).trans (congrArg some (kB_get D _)))) ?_; refine zg ?_
      exact ⟨rfl, bl (by unfold rskB; rw [hke, h62]; rfl), sB, hl⟩
    intro S1 hl
    refine zg ?_
    constructor <;> intro h66
    ·
     refine zg ?_
     rw [ralB, ralS_1 h66] at hp
     exact ⟨V.length - (b + 1), by omega, b + 1, D, O, ao, by omega, by omega, rfl, by omega, hp, ⟨rfl, rfl, rfl, rfl, rfl, rfl, rfl, rfl, trivial⟩, hl.tail⟩
    ·
     refine zg ?_; refine re_mapUpdateL hl 1 (k := ((a : Int), ia1, (b : Int), ib1)) rfl rfl rfl rfl rfl rfl rfl rfl Tryz.underlying126 kr4_eq (kr4_ok _) (kr4_pl _) (kr4_sm _) ?_; intro S1 hl
     rw [kB_put D _ ((n : Int) + 1), ← hke] at hl
     refine zg ?_
     refine zc hl rfl (spec58 aV aS cV cS V L n a b (hl.keep.3 hF) (hs.move (hl.since 0 rfl)) hpv hlo hnn hav hbv) ?_; rintro v S1 hk1 rfl hl
     refine rr rfl (rd_build rfl rfl (v := aggL [.int .i64 (n : Int), .int .i64 (a : Int), .int .i64 (b : Int), .int .i64 (rclE V L n (a : Int) (b : Int)), .int .i64 (rtrE V L n a b)]) (by rfl)) ?_; refine re_buildSliceR hl rfl rfl rfl rfl rfl Tryz.underlying62 rfl (c := [.int .i64 (n : Int), .int .i64 (a : Int), .int .i64 (b : Int), .int .i64 (rclE V L n (a : Int) (b : Int)), .int .i64 (rtrE V L n a b)]) (by kernel_rfl) ?_; intro B81 S1 hr81 hl
     refine re_appendG hl 0 rfl rfl (by simp) rfl rfl rfl rfl rfl rfl rfl Tryz.underlying62 Tryz.underlying62 rfl rfl (by kernel_rfl) (src_row (new := [.int .i64 (n : Int), .int .i64 (a : Int), .int .i64 (b : Int), .int .i64 (rclE V L n (a : Int) (b : Int)), .int .i64 (rtrE V L n a b)]) hr81 rfl) rfl rfl (by kernel_rfl) (by show O.length + 1 ≤ maxNeed; unfold maxNeed; omega) ?_; intro v82 S1 hl
     obtain ⟨av3, rfl⟩ : ∃ x, v82 = .slice x (O.length + 1) (O.length + 1) := Grow.is (hl.gr _ (List.mem_cons_self ..))
     refine zg ?_
     rw [ralB, ralS_2 h66] at hp
     refine ⟨V.length - (b + 1), by omega, b + 1, _, O ++ [⟨n, a, b, (rclE V L n (a : Int) (b : Int)), (rtrE V L n a b)⟩], av3, by omega, by omega, rfl, by rw [List.length_append]; show O.length + 1 ≤ _; omega, hp, ⟨rfl, rfl, rfl, rfl, congrArg some (congrArg (fun n => Value.slice av3 n n) (by rw [List.length_append]; rfl)), rfl, rfl, rfl, trivial⟩, ?_⟩
     rw [gOf_push]
     exact hl.tail
   ·
    refine zg ?_
    have hbe : V.length - b = 0 := by have := of_decide_eq_false h30; omega
    rw [hbe] at hp
    rw [ralA, ← hp] at hp1
    exact ⟨V.length - (a + 1), by omega, a + 1, D, O, ao, by omega, rfl, by omega, hp1, ⟨rfl, rfl, rfl, rfl, rfl, rfl, rfl, trivial⟩, hl⟩
  ·
   refine zg ?_
   have hae : V.length - a = 0 := by have := of_decide_eq_false h22; omega
   rw [hae] at hp1
   rw [ralL, ← hp1] at hp0
   exact ⟨L.length - (n + 1), by omega, n + 1, D1, O1, ao1, by omega, rfl, by omega, hp0, ⟨rfl, rfl, rfl, rfl, rfl, rfl, trivial⟩, hl⟩
 ·
  refine zg ?_
  refine y1 rfl ⟨hl.keep, (rds_end hp0 (by have := of_decide_eq_false h16; omega) (hl.gr _ (List.mem_cons_self ..)))⟩
end Go.Proofs.YtgiibikieblicaaGreatDoor
namespace Go.Proofs.YtgiibikieblicaaGreatDoor
open Go.Cm Go
set_option maxRecDepth 100000
variable {S : St}
theorem pv_of {V : List (List Ev)} (h : ((slsE V).2 != 0) = false) : PVl V := by
 intro x hx y hy hr
 have h1 : (acE V).1 = 0 := by simpa using sls_e h
 have h2 : (acG V 0).1 = 0 := by
  cases hc : decide ((V.length : Int) > 8) with
  | true => rw [ac_1 hc] at h1; cases h1
  | false => rw [ac_2 hc] at h1; exact h1
 obtain ⟨D⟩ := den_ex
 have h3 := (ev_kv (D := D) (ac_all h2 x hx)).2.1 y hy
 rw [mid_3 hr] at h3
 exact pE_no (by rw [h3]; rfl)
def rdsA (V : List (List Ev)) : List Ds × Int := bif (slsE V).2 != 0 then ([], (slsE V).2) else (rdsE V (slsE V).1, 0)
theorem rdsA_1 {V : List (List Ev)} (h : ((slsE V).2 != 0) = true) : rdsA V = ([], (slsE V).2) := by unfold rdsA; rw [h]; rfl
theorem rdsA_2 {V : List (List Ev)} (h : ((slsE V).2 != 0) = false) : rdsA V = (rdsE V (slsE V).1, 0) := by unfold rdsA; rw [h]; rfl
noncomputable def cd27 : Code := Tryz.f27.body.getD .skip
theorem spec27 (aV : Option Addr) (cV : Nat) (V : List (List Ev)) (hF : Fresh S) (hv : Vs S (.slice aV V.length cV) V) : CC Tryz.prog KK 27 [.slice aV V.length cV] S (fun v S' => Keep S S' ∧ ∃ av, v = tupV [.slice av (rdsA V).1.length (rdsA V).1.length, .int .i64 (rdsA V).2] ∧ Grow S S' (gOf 66 5 Ds.cells (.slice av (rdsA V).1.length (rdsA V).1.length) (rdsA V).1)) := by
 refine cc_enter (c := cd27) (n := 17) Tryz.func27 rfl rfl rfl (by kernel_rfl) rfl rfl ?_
 have hl := Hold.start S
 refine zg ?_
 refine zc hl rfl (spec36 aV cV V (hl.keep.3 hF) (hv.move (hl.since 0 rfl))) ?_; rintro v T1 hk1 ⟨w, rfl, hsl⟩ hl; have hl := hl.mark; obtain ⟨aS, cS, rfl⟩ := Sls.is hsl; have hvT := hv.move (hl.since 1 rfl)
 refine zg ?_
 constructor <;> intro h12
 ·
  refine zg ?_
  exact (z2 rfl rfl ⟨hl.keep, ⟨none, by rw [rdsA_1 h12] <;> rfl, by rw [rdsA_1 h12]; exact .inl ⟨rfl, rfl, rfl⟩⟩⟩)
 ·
  obtain ⟨hn, hV⟩ := ac_ok (sls_e h12)
  have hs : SetAt T1 aV aS cV cS V (slsE V).1 := ⟨hvT, hsl, sls_wf, hn, hV, sls_len hn hV⟩
  have hk0 := hl.keep.1
  refine zg ?_
  refine zc hl rfl (spec38 aV aS cV cS V (slsE V).1 (hl.keep.3 hF) (hs.move (hl.since 0 rfl)) (pv_of h12) sls_lo) ?_; rintro v S2 hk2 ⟨av, rfl, hg⟩ hl
  refine zg ?_
  refine y2 rfl rfl ⟨hl.keep, ⟨av, by rw [rdsA_2 h12] <;> rfl, by rw [rdsA_2 h12]; exact Grow.base hg hk0⟩⟩
end Go.Proofs.YtgiibikieblicaaGreatDoor
namespace Go.Proofs.YtgiibikieblicaaGreatDoor
open Go.Cm Go
set_option maxRecDepth 100000
variable {S : St}
section
variable {V : List (List Ev)} {L : List Sl}
theorem rtrT_bd {n mv hh : Nat} : 1 ≤ rtrT V L n mv hh ∧ rtrT V L n mv hh ≤ 4 := by
 unfold rtrT
 cases rpaB V mv (evI L n mv) <;> cases rtuB V mv (evI L n mv) <;> cases rsuE V L n mv hh <;> decide
theorem rtrE_bd {n a b : Nat} : 1 ≤ rtrE V L n a b ∧ rtrE V L n a b ≤ 4 := by
 unfold rtrE
 cases stB V L n a == stB V L n b with
 | true => show (1 : Int) ≤ 4 ∧ (4 : Int) ≤ 4; decide
 | false =>
  cases stB V L n b with
  | true => exact rtrT_bd
  | false => exact rtrT_bd
theorem ralS_ok {n a b : Nat} {q : MD × List Ds} {k : Nat} (h : DsOk q k) : DsOk (ralS V L n a b q) (k + 1) := by
 obtain ⟨D, O⟩ := q
 obtain ⟨h1, h2⟩ := h
 cases hs : rskB V L n a b D with
 | true => rw [ralS_1 hs]; exact ⟨Nat.le_succ_of_le h1, h2⟩
 | false =>
  rw [ralS_2 hs]
  refine ⟨by show (O ++ [_]).length ≤ _; rw [List.length_append]; exact Nat.succ_le_succ h1, fun x hx => ?_⟩
  rcases List.mem_append.1 hx with hx | hx
  ·exact h2 x hx
  ·rw [List.mem_singleton.1 hx]; exact rtrE_bd
theorem ralB_ok {n a : Nat} : ∀ (f b : Nat) (q : MD × List Ds) (k : Nat), DsOk q k → DsOk (ralB V L n a f b q) (k + f)
 | 0, _, _, _, h => h
 | f + 1, b, q, k, h => by
  rw [ralB, show k + (f + 1) = k + 1 + f by omega]
  exact ralB_ok f (b + 1) _ _ (ralS_ok h)
theorem ralA_ok {n : Nat} (hV : V.length ≤ 8) : ∀ (f a : Nat) (q : MD × List Ds) (k : Nat), DsOk q k → DsOk (ralA V L n f a q) (k + 8 * f)
 | 0, _, _, _, h => h
 | f + 1, a, q, k, h => by
  rw [ralA]
  exact (ralA_ok hV f (a + 1) _ (k + 8) ((ralB_ok _ _ _ _ h).mono (by omega))).mono (by omega)
theorem ralL_ok (hV : V.length ≤ 8) : ∀ (f n : Nat) (q : MD × List Ds) (k : Nat), DsOk q k → DsOk (ralL V L f n q) (k + 64 * f)
 | 0, _, _, _, h => h
 | f + 1, n, q, k, h => by
  rw [ralL]
  exact (ralL_ok hV f (n + 1) _ (k + 64) ((ralA_ok hV _ _ _ _ h).mono (by omega))).mono (by omega)
theorem rdsE_ok (hV : V.length ≤ 8) (hL : L.length ≤ 20000) : (rdsE V L).length ≤ 1280000 ∧ ∀ x, x ∈ rdsE V L → 1 ≤ x.t ∧ x.t ≤ 4 := by
 have h := ralL_ok (L := L) hV L.length 0 ([], []) 0 ⟨Nat.le_refl _, fun x hx => (List.not_mem_nil hx).elim⟩
 exact ⟨Nat.le_trans h.1 (by omega), h.2⟩
end
theorem rdsA_ok {V : List (List Ev)} : (rdsA V).1.length ≤ 1280000 ∧ ∀ x, x ∈ (rdsA V).1 → 1 ≤ x.t ∧ x.t ≤ 4 := by
 cases h1 : ((slsE V).2 != 0) with
 | true => rw [rdsA_1 h1]; exact ⟨Nat.zero_le _, fun x hx => (List.not_mem_nil hx).elim⟩
 | false =>
  obtain ⟨hn, hV⟩ := ac_ok (sls_e h1)
  rw [rdsA_2 h1]
  exact rdsE_ok hn (sls_len hn hV)
def rcnE (V : List (List Ev)) : List Int × Int := bif (rdsA V).2 != 0 then ([], (rdsA V).2) else (cntG (rdsA V).1 z4, 0)
theorem rcn_1 {V : List (List Ev)} (h : ((rdsA V).2 != 0) = true) : rcnE V = ([], (rdsA V).2) := by unfold rcnE; rw [h]; rfl
theorem rcn_2 {V : List (List Ev)} (h : ((rdsA V).2 != 0) = false) : rcnE V = (cntG (rdsA V).1 z4, 0) := by unfold rcnE; rw [h]; rfl
noncomputable def cd17 : Code := Tryz.f17.body.getD .skip
theorem spec17 (aV : Option Addr) (cV : Nat) (V : List (List Ev)) (hF : Fresh S) (hv : Vs S (.slice aV V.length cV) V) : CC Tryz.prog KK 17 [.slice aV V.length cV] S (fun v S' => Keep S S' ∧ ∃ w, v = tupV [w, .int .i64 (rcnE V).2] ∧ Ints S' w (rcnE V).1) := by
 refine cc_enter (c := cd17) (n := 35) Tryz.func17 rfl rfl rfl (by kernel_rfl) rfl rfl ?_
 have hl := Hold.start S
 refine zg ?_; refine zc hl rfl (spec27 aV cV V (hl.keep.3 hF) (hv.move (hl.since 0 rfl))) ?_
 have hl0 := hl
 rintro v Sm hk1 ⟨av, rfl, hw⟩ hl
 obtain ⟨A, hA⟩ : ∃ A, A = (rdsA V).1 := ⟨_, rfl⟩
 have hok := rdsA_ok (V := V)
 rw [← hA] at hw hok ⊢
 obtain ⟨fr, hl, hw⟩ := Grow.own (f := Ds.cells) (fun _ => rfl) hl0 hk1 hw
 have hl : HoldG S [S] Sm fr [] := hl
 refine zg ?_
 constructor <;> intro h14
 ·
  refine zg ?_
  exact (z2 rfl rfl ⟨hl.keep, ⟨_, by rw [rcn_1 h14] <;> rfl, by rw [rcn_1 h14]; exact LsOf.nil⟩⟩)
 ·
  refine zg ?_; refine re_makeSliceK hl rfl rfl rfl rfl rfl rfl rfl rfl rfl Tryz.underlying39 (z := .int .i64 0) (by kernel_rfl) (by kernel_rfl) (by decide) ?_; intro B16 S1 hl; refine zA ?_; refine xp_seq rfl ?_; refine zS ?_; refine xp_block rfl ?_
  -- LOOP
  refine xe_sub (L' := [(7, .int .i64 0), (6, .slice (some ⟨B16, 0, none⟩) 4 4), (4, .slice av A.length A.length), (3, .int .i64 0), (2, .slice none 0 0)]) ⟨rfl, rfl, rfl, rfl, rfl, trivial⟩ ?_
  refine xp_loop rfl (fun m Le S' => ∃ (i : Nat) (O : List Int), i ≤ A.length ∧ m = A.length - i ∧ COk O i ∧ cntG (A.drop i) O = cntG A z4 ∧ SubE [(7, .int .i64 (i : Int)), (6, .slice (some ⟨B16, 0, none⟩) 4 4), (4, .slice av A.length A.length), (3, .int .i64 0), (2, .slice none 0 0)] Le ∧ HoldG S [S] S' ((B16, .cells ((O.map ic).flatten) 3 true true []) :: fr) []) ?_ (m := A.length) ⟨0, z4, by omega, rfl, z4_ok, rfl, ⟨rfl, rfl, rfl, rfl, rfl, trivial⟩, hl⟩
  clear hl; rintro m Le S' ⟨i, O, hi, rfl, hO, hp, hsub, hl⟩; refine xe_sub hsub ?_
  refine zg ?_
  constructor <;> intro h20
  ·
   have hlt : i < A.length := by have := of_decide_eq_true h20; omega
   obtain ⟨x, hx⟩ := nth_some hlt
   obtain ⟨b1, o1, cs1, ha, _, hrow, htk⟩ := (hw hl (fun p hp => List.mem_cons_of_mem _ hp)).elem hx
   have hxt := hok.2 x (nth_mem hx)
   have hO4 := hO.1
   obtain ⟨d, hd⟩ := nth_some (l := O) (i := (x.t - 1).toNat) (by omega)
   have hdb := hO.2 d (nth_mem hd)
   have hup : upC O x = O.set (x.t - 1).toNat (d + 1) := by unfold upC; rw [hd]; rfl
   rw [drop_nth' hx, cntG, hup] at hp
   have hup2 := hO.up (x := x)
   rw [hup] at hup2
   refine xp_skip rfl ?_; refine xp_seq rfl ?_; refine xp_block rfl ?_; refine xg (by kernel_rfl) ?_; iterate 3 refine rm rfl ?_
   refine rr rfl (rd_indexAddr rfl rfl rfl (indexAddr_sl (z := 5) ha Tryz.underlying62 (by kernel_rfl) ⟨by omega, by omega⟩)) ?_; refine rr rfl (rd_fieldAddr rfl rfl (fa Tryz.underlying66 az66 rfl)) ?_; refine rr rfl (rd_load rfl rfl (l2 hrow (tk_nth (j := 4) htk rfl))) ?_; refine rr rfl (rd_bin rfl rfl rfl (i6 (by omega))) ?_; refine rr rfl (rd_indexAddr rfl rfl rfl (indexAddr_slice (z := 1) Tryz.underlying39 (by kernel_rfl) ⟨by omega, by omega⟩)) ?_; refine rr rfl (rd_load rfl rfl (l1 (hl.get 0 rfl) (tk_nth (j := 0) (flat_take (f := ic) (fun _ => rfl) hd) rfl))) ?_
   refine rr rfl (rd_bin rfl rfl rfl (i6 (by omega))) ?_; refine rr rfl (rd_indexAddr rfl rfl rfl (indexAddr_slice (z := 1) Tryz.underlying39 (by kernel_rfl) ⟨by omega, by omega⟩)) ?_; refine re_storeR hl 0 rfl rfl rfl rfl rfl rfl rfl (by kernel_rfl) (setN_rowI (f := ic) (z := 1) (j := 0) (k := x.t - 1) (i := (x.t - 1).toNat) (fun _ => rfl) (by omega) hd rfl (y := d + 1) rfl) ?_; intro S1 hl; refine zg ?_
   exact ⟨A.length - (i + 1), by omega, i + 1, O.set (x.t - 1).toNat (d + 1), by omega, rfl, hup2, hp, ⟨rfl, rfl, rfl, rfl, rfl, trivial⟩, hl⟩
  ·
   refine zg ?_
   refine y2 rfl rfl ⟨hl.keep, by rw [rcn_2 h14, ← hA]; rw [List.drop_eq_nil_of_le (by have := of_decide_eq_false h20; omega)] at hp; have hp : O = cntG A z4 := hp; rw [← hp]; exact ⟨_, rfl, LsOf.row (f := ic) (C := O) (fun _ => rfl) (own_mem hl (List.mem_cons_self ..)) hO.1.symm⟩⟩
end Go.Proofs.YtgiibikieblicaaGreatDoor

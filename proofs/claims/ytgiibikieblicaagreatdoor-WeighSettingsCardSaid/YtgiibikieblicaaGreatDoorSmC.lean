/-
  parallel: moves, perfect, upper. parallel: kind. the numbers of the slices. the frame of parallel.Find. parallel: pairs, its iterator. parallel.Find. parallel: how many. dissonance: starts. dissonance: short, step. dissonance.chord. dissonance.passing. dissonance.turning. rows that are written. dissonance.clash. dissonance.suspended.
-/
import Derived.Test.YtgiibikieblicaaGreatDoorSmB
namespace Go.Proofs.YtgiibikieblicaaGreatDoor
open Go.Cm Go
set_option maxRecDepth 100000
variable {S : St}
def atL (L : List Sl) (n : Nat) : Ti := ((nth L n).map Sl.at_).getD zT
theorem atL_at {L : List Sl} {n : Nat} {s : Sl} (h : nth L n = some s) : atL L n = s.at_ := by unfold atL; rw [h]; rfl
def mvB (V : List (List Ev)) (L : List Sl) (v n : Nat) : Bool := ((!(snE V L v (n - 1)).2) || (!(snE V L v n).2)) || (!decide ((snE V L v n).1.at_ = atL L n))
def mvP (V : List (List Ev)) (L : List Sl) (v n : Nat) : Int × Bool := bif decide ((n : Int) < 1) then (0, false) else bif mvB V L v n then (0, false) else (mvN (snE V L v (n - 1)).1 (snE V L v n).1, true)
theorem mvP_1 {V : List (List Ev)} {L : List Sl} {v n : Nat} (h : decide ((n : Int) < 1) = true) : mvP V L v n = (0, false) := by unfold mvP; rw [h]; rfl
theorem mvP_2 {V : List (List Ev)} {L : List Sl} {v n : Nat} (h : decide ((n : Int) < 1) = false) (h2 : mvB V L v n = true) : mvP V L v n = (0, false) := by unfold mvP; rw [h, h2]; rfl
theorem mvP_3 {V : List (List Ev)} {L : List Sl} {v n : Nat} (h : decide ((n : Int) < 1) = false) (h2 : mvB V L v n = false) : mvP V L v n = (mvN (snE V L v (n - 1)).1 (snE V L v n).1, true) := by unfold mvP; rw [h, h2]; rfl
theorem numE_bd (p : Pt) : 0 ≤ (numE p).1 ∧ (numE p).1 ≤ 62 := by
 cases h : pB p with
 | true => unfold numE; rw [h]; exact ⟨Int.le_refl 0, (by decide : (0 : Int) ≤ 62)⟩
 | false => rw [numE_ok h]; exact num_bd h
def pfE (V : List (List Ev)) (L : List Sl) (a b n : Nat) : Int × Bool := ((spE (snE V L a n).1.p (snE V L b n).1.p).1.st, (kdE (snE V L a n).1.p (snE V L b n).1.p).1 == 1)
def upE (V : List (List Ev)) (L : List Sl) (a b n : Nat) (da db : Int) : Int := bif decide ((numE (snE V L a n).1.p).1 > (numE (snE V L b n).1.p).1) then da else db
theorem up_1 {V : List (List Ev)} {L : List Sl} {a b n : Nat} {da db : Int} (h : decide ((numE (snE V L a n).1.p).1 > (numE (snE V L b n).1.p).1) = true) : upE V L a b n da db = da := by unfold upE; rw [h]; rfl
theorem up_2 {V : List (List Ev)} {L : List Sl} {a b n : Nat} {da db : Int} (h : decide ((numE (snE V L a n).1.p).1 > (numE (snE V L b n).1.p).1) = false) : upE V L a b n da db = db := by unfold upE; rw [h]; rfl
noncomputable def cd41 : Code := Tryz.f41.body.getD .skip
theorem spec41 (aV aS : Option Addr) (cV cS : Nat) (V : List (List Ev)) (L : List Sl) (vv n : Nat) (hs : SetAt S aV aS cV cS V L) (hvv : vv < V.length) (hnn : n < L.length) : CC Tryz.prog KK 41 [aggL [.slice aV V.length cV, .slice aS L.length cS], .int .i64 (vv : Int), .int .i64 (n : Int)] S (fun v S' => Keep S S' ∧ v = tupV [.int .i64 (mvP V L vv n).1, .bool (mvP V L vv n).2]) := by
 refine cc_enter (c := cd41) (n := 65) Tryz.func41 rfl rfl rfl (by kernel_rfl) rfl rfl ?_
 have hl := Hold.start S
 refine zg ?_; refine re_boxL hl rfl rfl rfl rfl rfl rfl ?_; intro B3 S3 hl; refine zg ?_
 constructor <;> intro h17
 ·
  refine zg ?_
  exact (z2 rfl rfl ⟨hl.keep, by rw [mvP_1 h17]⟩)
 ·
  have hn1 : 1 ≤ n := by have := of_decide_eq_false h17; omega
  have hL := hs.hL
  obtain ⟨s, hsn⟩ := nth_some hnn
  obtain ⟨b1, o1, cs1, aw, cw, ha, _, hrow, htk, hiv⟩ := hs.sl.elem hsn
  have hal := atL_at hsn
  have hb1 := numE_bd (snE V L vv (n - 1)).1.p
  have hb2 := numE_bd (snE V L vv n).1.p
  refine xp_skip rfl ?_; refine xs (by kernel_rfl) ?_; refine rr rfl (rd_load rfl rfl (lN (z := 2) (hl.get 0 rfl) rfl)) ?_; iterate 2 refine rm rfl ?_
  refine rr rfl (rd_bin rfl rfl rfl (congrArg some (congrArg (Value.int .i64) ((IntWalk.i64_in _ (by omega)).trans (show ((n : Int) - 1) = ((n - 1 : Nat) : Int) by omega))))) ?_
  refine zc hl rfl (spec61 aV aS cV cS V L vv (n - 1) (hs.move (hl.since 0 rfl)) hvv (by omega)) ?_; rintro v S1 hk1 rfl hl
  refine zg ?_; refine re_allocL hl rfl rfl rfl rfl rfl (z := [.int .i64 0, .int .i64 0, .int .i64 0, .int .i64 0, .int .i64 0, .int .i64 0, .int .i64 0, .bool false, .int .i64 0, .int .i64 0]) (by kernel_rfl) ?_; intro B8 S8 hl; refine re_storeL hl 0 rfl rfl rfl rfl rfl rfl rfl (by kernel_rfl) rfl ?_; intro S1 hl; refine zg ?_
  refine zc hl rfl (spec61 aV aS cV cS V L vv n (hs.move (hl.since 0 rfl)) hvv hnn) ?_; rintro v S1 hk1 rfl hl
  refine zg ?_; refine re_allocL hl rfl rfl rfl rfl rfl (z := [.int .i64 0, .int .i64 0, .int .i64 0, .int .i64 0, .int .i64 0, .int .i64 0, .int .i64 0, .bool false, .int .i64 0, .int .i64 0]) (by kernel_rfl) ?_; intro B10 S10 hl; refine re_storeL hl 0 rfl rfl rfl rfl rfl rfl rfl (by kernel_rfl) rfl ?_; intro S1 hl; refine zA ?_; refine xp_seq rfl ?_; refine xp_seq rfl (xe_toE hl 49 (.bool (mvB V L vv n)) ?_ rfl ?_)
  ·
   refine xp_draw (idx := [0, 1, 2, 3, 4, 5, 6, 7, 8, 9, 10, 11, 12, 13, 14, 15, 16]) rfl (by kernel_rfl) (by kernel_rfl) ?_; refine zg ?_; refine pr rfl (rd_un rfl rfl rfl) ?_; refine zg ?_; refine rp_bool (d := 35) rfl (fun h35 => ?_) (fun h35 => ?_)
   ·
    refine zg ?_
    exact ⟨rfl, bl (by unfold mvB; rw [hal, h35]; rfl), sB, hl⟩
   ·
    refine zg ?_; refine pr rfl (rd_un rfl rfl rfl) ?_; refine zg ?_; refine rp_bool (d := 39) rfl (fun h39 => ?_) (fun h39 => ?_)
    ·
     refine zg ?_
     exact ⟨rfl, bl (by unfold mvB; rw [hal, h35, h39]; rfl), sB, hl⟩
    ·
     refine zg ?_
     exact ⟨rfl, bl (by unfold mvB; rw [hal, h35, h39]; rfl), sB, hl⟩
  intro S1 hl
  refine zg ?_
  constructor <;> intro h49
  ·
   refine zg ?_
   exact (z2 rfl rfl ⟨hl.keep, by rw [mvP_2 h17 h49]⟩)
  ·
   refine zg ?_
   refine zc hl rfl (spec62 (snE V L vv (n - 1)).1.p) ?_; rintro v S1 hk1 rfl hl
   refine zg ?_
   refine zc hl rfl (spec62 (snE V L vv n).1.p) ?_; rintro v S1 hk1 rfl hl
   refine zg ?_
   refine y2 rfl rfl ⟨hl.keep, by rw [mvP_3 h17 h49] <;> rfl⟩
noncomputable def cd43 : Code := Tryz.f43.body.getD .skip
theorem spec43 (aV aS : Option Addr) (cV cS : Nat) (V : List (List Ev)) (L : List Sl) (a b n : Nat) (hF : Fresh S) (hG : Gl S) (hs : SetAt S aV aS cV cS V L) (ha : a < V.length) (hb : b < V.length) (hnn : n < L.length) : CC Tryz.prog KK 43 [aggL [.slice aV V.length cV, .slice aS L.length cS], .int .i64 (a : Int), .int .i64 (b : Int), .int .i64 (n : Int)] S (fun v S' => Keep S S' ∧ v = tupV [.int .i64 (pfE V L a b n).1, .bool (pfE V L a b n).2]) := by
 refine cc_enter (c := cd43) (n := 52) Tryz.func43 rfl rfl rfl (by kernel_rfl) rfl rfl ?_
 have hl := Hold.start S
 refine zg ?_; refine re_boxL hl rfl rfl rfl rfl rfl rfl ?_; intro B4 S4 hl; refine zg ?_
 refine zc hl rfl (spec61 aV aS cV cS V L a n (hs.move (hl.since 0 rfl)) ha hnn) ?_; rintro v S1 hk1 rfl hl
 refine zg ?_; refine re_allocL hl rfl rfl rfl rfl rfl (z := [.int .i64 0, .int .i64 0, .int .i64 0, .int .i64 0, .int .i64 0, .int .i64 0, .int .i64 0, .bool false, .int .i64 0, .int .i64 0]) (by kernel_rfl) ?_; intro B10 S10 hl; refine re_storeL hl 0 rfl rfl rfl rfl rfl rfl rfl (by kernel_rfl) rfl ?_; intro S1 hl; refine zg ?_
 refine zc hl rfl (spec61 aV aS cV cS V L b n (hs.move (hl.since 0 rfl)) hb hnn) ?_; rintro v S1 hk1 rfl hl
 refine zg ?_; refine re_allocL hl rfl rfl rfl rfl rfl (z := [.int .i64 0, .int .i64 0, .int .i64 0, .int .i64 0, .int .i64 0, .int .i64 0, .int .i64 0, .bool false, .int .i64 0, .int .i64 0]) (by kernel_rfl) ?_; intro B12 S12 hl; refine re_storeL hl 0 rfl rfl rfl rfl rfl rfl rfl (by kernel_rfl) rfl ?_; intro S1 hl; refine zg ?_
 refine zc hl rfl (spec63 (snE V L a n).1.p (snE V L b n).1.p (hl.keep.3 hF) (hG.keep hl.keep)) ?_; rintro v S1 hk1 rfl hl
 refine zg ?_
 refine zc hl rfl (spec64 (snE V L a n).1.p (snE V L b n).1.p (hl.keep.3 hF) (hG.keep hl.keep)) ?_; rintro v S1 hk1 rfl hl
 refine zg ?_; refine re_allocL hl rfl rfl rfl rfl rfl (z := [.int .i64 0, .int .i64 0]) (by kernel_rfl) ?_; intro B16 S16 hl; refine re_storeL hl 0 rfl rfl rfl rfl rfl rfl rfl (by kernel_rfl) rfl ?_; intro S1 hl; refine zg ?_
 refine y2 rfl rfl ⟨hl.keep, rfl⟩
noncomputable def cd44 : Code := Tryz.f44.body.getD .skip
theorem spec44 (aV aS : Option Addr) (cV cS : Nat) (V : List (List Ev)) (L : List Sl) (a b n : Nat) (da db : Int) (hs : SetAt S aV aS cV cS V L) (ha : a < V.length) (hb : b < V.length) (hnn : n < L.length) : CC Tryz.prog KK 44 [aggL [.slice aV V.length cV, .slice aS L.length cS], .int .i64 (a : Int), .int .i64 (b : Int), .int .i64 (n : Int), .int .i64 da, .int .i64 db] S (fun v S' => Keep S S' ∧ v = .int .i64 (upE V L a b n da db)) := by
 refine cc_enter (c := cd44) (n := 52) Tryz.func44 rfl rfl rfl (by kernel_rfl) rfl rfl ?_
 have hl := Hold.start S
 refine zg ?_; refine re_boxL hl rfl rfl rfl rfl rfl rfl ?_; intro B6 S6 hl; refine zg ?_
 refine zc hl rfl (spec61 aV aS cV cS V L a n (hs.move (hl.since 0 rfl)) ha hnn) ?_; rintro v S1 hk1 rfl hl
 refine zg ?_; refine re_allocL hl rfl rfl rfl rfl rfl (z := [.int .i64 0, .int .i64 0, .int .i64 0, .int .i64 0, .int .i64 0, .int .i64 0, .int .i64 0, .bool false, .int .i64 0, .int .i64 0]) (by kernel_rfl) ?_; intro B13 S13 hl; refine re_storeL hl 0 rfl rfl rfl rfl rfl rfl rfl (by kernel_rfl) rfl ?_; intro S1 hl; refine zg ?_
 refine zc hl rfl (spec61 aV aS cV cS V L b n (hs.move (hl.since 0 rfl)) hb hnn) ?_; rintro v S1 hk1 rfl hl
 refine zg ?_; refine re_allocL hl rfl rfl rfl rfl rfl (z := [.int .i64 0, .int .i64 0, .int .i64 0, .int .i64 0, .int .i64 0, .int .i64 0, .int .i64 0, .bool false, .int .i64 0, .int .i64 0]) (by kernel_rfl) ?_; intro B15 S15 hl; refine re_storeL hl 0 rfl rfl rfl rfl rfl rfl rfl (by kernel_rfl) rfl ?_; intro S1 hl; refine zg ?_
 refine zc hl rfl (spec62 (snE V L a n).1.p) ?_; rintro v S1 hk1 rfl hl
 refine zg ?_
 refine zc hl rfl (spec62 (snE V L b n).1.p) ?_; rintro v S1 hk1 rfl hl
 refine zg ?_
 constructor <;> intro h49
 ·
  refine zg ?_
  exact (z1 rfl ⟨hl.keep, congrArg (Value.int .i64) (up_1 h49).symm⟩)
 ·
  refine zg ?_
  refine y1 rfl ⟨hl.keep, congrArg (Value.int .i64) (up_2 h49).symm⟩
end Go.Proofs.YtgiibikieblicaaGreatDoor
namespace Go.Proofs.YtgiibikieblicaaGreatDoor
open Go.Cm Go
set_option maxRecDepth 100000
variable {S : St}
theorem mv_pos {V : List (List Ev)} {L : List Sl} {v n : Nat} (h : (mvP V L v n).2 = true) : 1 ≤ n := by
 cases hd : decide ((n : Int) < 1) with
 | true => rw [mvP_1 hd] at h; cases h
 | false => have := of_decide_eq_false hd; omega
theorem sgn_cases (x : Int) : sgn x = -1 ∨ sgn x = 0 ∨ sgn x = 1 := by
 cases h : decide (x < 0) with
 | true => exact .inl (sgn_1 h)
 | false =>
  cases h2 : decide (x > 0) with
  | true => exact .inr (.inr (sgn_2 h h2))
  | false => exact .inr (.inl (sgn_3 h h2))
theorem sgn_mul (x y : Int) : -1 ≤ sgn x * sgn y ∧ sgn x * sgn y ≤ 1 := by
 rcases sgn_cases x with h | h | h <;> rcases sgn_cases y with k | k | k <;> rw [h, k] <;> decide
def kmB (V : List (List Ev)) (L : List Sl) (a b n : Nat) : Bool := ((!(mvP V L a n).2) || (!(mvP V L b n).2)) || (sgn (mvP V L a n).1 * sgn (mvP V L b n).1 == 0)
def agB (V : List (List Ev)) (L : List Sl) (a b n : Nat) : Bool := (pfE V L a b (n - 1)).2 && ((pfE V L a b (n - 1)).1 == (pfE V L a b n).1)
def tgB (V : List (List Ev)) (L : List Sl) (a b n : Nat) : Bool := sgn (mvP V L a n).1 == sgn (mvP V L b n).1
def faI (V : List (List Ev)) (L : List Sl) (a b n : Nat) : Int := upE V L a b n (mvP V L a n).1 (mvP V L b n).1
def hdB (V : List (List Ev)) (L : List Sl) (a b n : Nat) : Bool := tgB V L a b n && (decide (faI V L a b n > 1) || decide (faI V L a b n < -1))
def kmE (V : List (List Ev)) (L : List Sl) (a b n : Nat) : Int × Int := bif kmB V L a b n then (0, 0) else bif !(pfE V L a b n).2 then (0, 0) else bif tgB V L a b n && agB V L a b n then (1, (pfE V L a b n).1) else bif agB V L a b n then (3, (pfE V L a b n).1) else bif hdB V L a b n then (2, (pfE V L a b n).1) else (0, 0)
section
variable {V : List (List Ev)} {L : List Sl} {a b n : Nat}
theorem km_1 (h : kmB V L a b n = true) : kmE V L a b n = (0, 0) := by unfold kmE; rw [h]; rfl
theorem km_2 (h : kmB V L a b n = false) (h2 : (!(pfE V L a b n).2) = true) : kmE V L a b n = (0, 0) := by unfold kmE; rw [h, h2]; rfl
theorem km_3 (h : kmB V L a b n = false) (h2 : (!(pfE V L a b n).2) = false) (h3 : (tgB V L a b n && agB V L a b n) = true) : kmE V L a b n = (1, (pfE V L a b n).1) := by unfold kmE; rw [h, h2, h3]; rfl
theorem km_4 (h : kmB V L a b n = false) (h2 : (!(pfE V L a b n).2) = false) (h3 : (tgB V L a b n && agB V L a b n) = false) (h4 : agB V L a b n = true) : kmE V L a b n = (3, (pfE V L a b n).1) := by unfold kmE; rw [h, h2, h3, h4]; rfl
theorem km_5 (h : kmB V L a b n = false) (h2 : (!(pfE V L a b n).2) = false) (h3 : (tgB V L a b n && agB V L a b n) = false) (h4 : agB V L a b n = false) (h5 : hdB V L a b n = true) : kmE V L a b n = (2, (pfE V L a b n).1) := by unfold kmE; rw [h, h2, h3, h4, h5]; rfl
theorem km_6 (h : kmB V L a b n = false) (h2 : (!(pfE V L a b n).2) = false) (h3 : (tgB V L a b n && agB V L a b n) = false) (h4 : agB V L a b n = false) (h5 : hdB V L a b n = false) : kmE V L a b n = (0, 0) := by unfold kmE; rw [h, h2, h3, h4, h5]; rfl
theorem km_pos (h : kmB V L a b n = false) : 1 ≤ n := by
 refine mv_pos (V := V) (L := L) (v := a) ?_
 cases h2 : (mvP V L a n).2 with
 | true => rfl
 | false => unfold kmB at h; rw [h2] at h; cases h
end
noncomputable def cd33 : Code := Tryz.f33.body.getD .skip
theorem spec33 (aV aS : Option Addr) (cV cS : Nat) (V : List (List Ev)) (L : List Sl) (a b n : Nat) (hF : Fresh S) (hG : Gl S) (hs : SetAt S aV aS cV cS V L) (ha : a < V.length) (hb : b < V.length) (hnn : n < L.length) : CC Tryz.prog KK 33 [aggL [.slice aV V.length cV, .slice aS L.length cS], .int .i64 (a : Int), .int .i64 (b : Int), .int .i64 (n : Int)] S (fun v S' => Keep S S' ∧ v = tupV [.int .i64 (kmE V L a b n).1, .int .i64 (kmE V L a b n).2]) := by
 refine cc_enter (c := cd33) (n := 106) Tryz.func33 rfl rfl rfl (by kernel_rfl) rfl rfl ?_
 have hl := Hold.start S
 have hm1 := sgn_mul (mvP V L a n).1 (mvP V L b n).1
 have hL := hs.hL
 refine zg ?_; refine re_boxL hl rfl rfl rfl rfl rfl rfl ?_; intro B4 S4 hl; refine zg ?_
 refine zc hl rfl (spec41 aV aS cV cS V L a n (hs.move (hl.since 0 rfl)) ha hnn) ?_; rintro v S1 hk1 rfl hl
 refine zg ?_
 refine zc hl rfl (spec41 aV aS cV cS V L b n (hs.move (hl.since 0 rfl)) hb hnn) ?_; rintro v S1 hk1 rfl hl
 refine zA ?_; refine xp_seq rfl ?_; refine xp_seq rfl (xe_toE hl 48 (.bool (kmB V L a b n)) ?_ rfl ?_)
 ·
  refine zg ?_; refine rr rfl (rd_un rfl rfl rfl) ?_; refine zg ?_; refine re_bool (d := 37) rfl (fun h37 => ?_) (fun h37 => ?_)
  ·
   refine zg ?_
   exact ⟨rfl, bl (by unfold kmB; rw [h37]; rfl), sB, hl⟩
  ·
   refine zg ?_; refine rr rfl (rd_un rfl rfl rfl) ?_; refine zg ?_; refine re_bool (d := 41) rfl (fun h41 => ?_) (fun h41 => ?_)
   ·
    refine zg ?_
    exact ⟨rfl, bl (by unfold kmB; rw [h37, h41]; rfl), sB, hl⟩
   ·
    refine zg ?_
    refine zc hl rfl (spec42 (mvP V L a n).1) ?_; rintro v S1 hk1 rfl hl
    refine zg ?_
    refine zc hl rfl (spec42 (mvP V L b n).1) ?_; rintro v S1 hk1 rfl hl
    refine zg ?_
    exact ⟨rfl, bl (by unfold kmB; rw [h37, h41]; rfl), sB, hl⟩
 intro S1 hl
 refine zg ?_
 constructor <;> intro h48
 ·
  refine zg ?_
  exact (z2 rfl rfl ⟨hl.keep, by rw [km_1 h48] <;> rfl⟩)
 ·
  have hn1 := km_pos h48
  refine zg ?_
  refine zc hl rfl (spec43 aV aS cV cS V L a b n (hl.keep.3 hF) (hG.keep hl.keep) (hs.move (hl.since 0 rfl)) ha hb hnn) ?_; rintro v S1 hk1 rfl hl
  refine zg ?_; refine rr rfl (rd_un rfl rfl rfl) ?_; refine zg ?_
  constructor <;> intro h58
  ·
   refine zg ?_
   exact (z2 rfl rfl ⟨hl.keep, by rw [km_2 h48 h58] <;> rfl⟩)
  ·
   refine xp_skip rfl ?_; refine xs (by kernel_rfl) ?_; refine rr rfl (rd_load rfl rfl (lN (z := 2) (hl.get 0 rfl) rfl)) ?_; iterate 3 refine rm rfl ?_
   refine rr rfl (rd_bin rfl rfl rfl (congrArg some (congrArg (Value.int .i64) ((IntWalk.i64_in _ (by omega)).trans (show ((n : Int) - 1) = ((n - 1 : Nat) : Int) by omega))))) ?_
   refine zc hl rfl (spec43 aV aS cV cS V L a b (n - 1) (hl.keep.3 hF) (hG.keep hl.keep) (hs.move (hl.since 0 rfl)) ha hb (by omega)) ?_; rintro v S1 hk1 rfl hl
   refine zA ?_; refine xp_seq rfl (xe_toE hl 18 (.bool (agB V L a b n)) ?_ rfl ?_)
   ·
    refine zg ?_; refine re_bool (d := 69) rfl (fun h69 => ?_) (fun h69 => ?_)
    ·
     refine zg ?_
     exact ⟨rfl, bl (by unfold agB; rw [h69]; rfl), sB, hl⟩
    ·
     refine zg ?_
     exact ⟨rfl, bl (by unfold agB; rw [h69]; rfl), sB, hl⟩
   intro S1 hl
   refine zg ?_
   refine zc hl rfl (spec42 (mvP V L a n).1) ?_; rintro v S1 hk1 rfl hl
   refine zg ?_
   refine zc hl rfl (spec42 (mvP V L b n).1) ?_; rintro v S1 hk1 rfl hl
   refine zg ?_
   refine zc hl rfl (spec44 aV aS cV cS V L a b n _ _ (hs.move (hl.since 0 rfl)) ha hb hnn) ?_; rintro v S1 hk1 rfl hl
   refine zA ?_; refine xp_seq rfl ?_; refine xp_block rfl ?_; refine xp_seq rfl (xe_toE hl 86 (.bool (tgB V L a b n && agB V L a b n)) ?_ rfl ?_)
   ·
    refine zg ?_; refine re_bool (d := 88) rfl (fun h88 => ?_) (fun h88 => ?_)
    ·
     refine zg ?_
     exact ⟨rfl, bl (by rw [show tgB V L a b n = _ from h88]; rfl), sB, hl⟩
    ·
     refine zg ?_
     exact ⟨rfl, bl (by rw [show tgB V L a b n = _ from h88]; rfl), sB, hl⟩
   intro S1 hl
   refine zg ?_
   constructor <;> intro h86
   ·
    refine zg ?_
    refine blk_ret ((z2 rfl rfl ⟨hl.keep, by rw [km_3 h48 h58 h86] <;> rfl⟩))
   ·
    refine zg ?_
    constructor <;> intro h92
    ·
     refine zg ?_
     refine blk_ret ((z2 rfl rfl ⟨hl.keep, by rw [km_4 h48 h58 h86 h92] <;> rfl⟩))
    ·
     refine xp_seq rfl (xe_toE hl 95 (.bool (hdB V L a b n)) ?_ rfl ?_)
     ·
      refine zg ?_; refine re_bool (d := 97) rfl (fun h97 => ?_) (fun h97 => ?_)
      ·
       refine zg ?_; refine re_bool (d := 100) rfl (fun h100 => ?_) (fun h100 => ?_)
       ·
        refine zg ?_
        exact ⟨rfl, bl (by unfold hdB; rw [show tgB V L a b n = _ from h97]; rw [show decide (faI V L a b n > 1) = _ from h100]; rfl), sB, hl⟩
       ·
        refine zg ?_
        exact ⟨rfl, bl (by unfold hdB; rw [show tgB V L a b n = _ from h97]; rw [show decide (faI V L a b n > 1) = _ from h100]; rfl), sB, hl⟩
      ·
       refine zg ?_
       exact ⟨rfl, bl (by unfold hdB; rw [show tgB V L a b n = _ from h97]; rfl), sB, hl⟩
     intro S1 hl
     refine zg ?_
     constructor <;> intro h95
     ·
      refine zg ?_
      refine blk_ret ((z2 rfl rfl ⟨hl.keep, by rw [km_5 h48 h58 h86 h92 h95] <;> rfl⟩))
     ·
      refine zg ?_
      refine y2 rfl rfl ⟨hl.keep, by rw [km_6 h48 h58 h86 h92 h95] <;> rfl⟩
end Go.Proofs.YtgiibikieblicaaGreatDoor
namespace Go.Proofs.YtgiibikieblicaaGreatDoor
open Go.Cm Go
set_option maxRecDepth 100000
variable {S : St}
theorem sgn_le {x : Int} (h : x ≤ 0) : sgn x ≤ 0 := by
 cases h1 : decide (x < 0) with
 | true => rw [sgn_1 h1]; decide
 | false => rw [sgn_3 h1 (decide_eq_false (by omega))]; decide
theorem cmp_zT (t : Ti) : (cmpE zT t).1 ≤ 0 := by
 cases h : (firstE [zT, t] != 0) with
 | true => rw [cmpE_1 h]; exact Int.le_refl 0
 | false =>
  rw [cmpE_2 h]
  have ht := tE_ok (first2 h).2
  refine sgn_le ?_
  show 0 * t.d - t.n * 1 ≤ 0
  omega
theorem hr_nil (t : Ti) (k : Nat) : hrE [] t k = -1 := (hr_1 (v := []) (decide_eq_true (show (cmpE (endE []).1 t).1 ≤ 0 from cmp_zT t))).symm
theorem adv_lt : ∀ (f : Nat) (v : List Ev) (t : Ti) (k : Nat), k < v.length → adv f v t k < v.length
 | 0, _, _, _, h => h
 | f + 1, v, t, k, h => by
  rw [adv]
  cases hb : advB v t k with
  | true => exact adv_lt f v t (k + 1) (advB_lt hb)
  | false => exact h
theorem hr_le (v : List Ev) (t : Ti) (k : Nat) : hrE v t k ≤ (k : Int) := by
 unfold hrE
 cases decide ((cmpE (endE v).1 t).1 ≤ 0) with
 | true => show (-1 : Int) ≤ _; omega
 | false => exact Int.le_refl _
theorem nth_unzip {α β γ : Type} {f : α → β → γ} : ∀ {l : List α} {r : List β} {i : Nat} {z : γ}, nth (List.zipWith f l r) i = some z → ∃ x y, nth l i = some x ∧ nth r i = some y ∧ z = f x y
 | [], _, _, _, h => by simp [nth] at h
 | _ :: _, [], _, _, h => by simp [nth] at h
 | x :: _, y :: _, 0, _, h => by cases h; exact ⟨x, y, rfl, rfl, rfl⟩
 | _ :: l, _ :: r, i + 1, _, h => nth_unzip (l := l) (r := r) (i := i) h
def PlOk (V : List (List Ev)) (A : List Nat) : Prop := A.length = V.length ∧ ∀ j k x, nth A j = some k → nth V j = some x → k < x.length ∨ x = []
theorem PlOk.step {V : List (List Ev)} {A : List Nat} (h : PlOk V A) (t : Ti) : PlOk V (upd V t A) := by
 refine ⟨by unfold upd; rw [List.length_zipWith]; have := h.1; omega, fun j k x hk hx => ?_⟩
 obtain ⟨x', k0, e1, e2, rfl⟩ := nth_unzip hk
 rw [hx] at e1
 cases e1
 rcases h.2 j k0 x e2 hx with h3 | h3
 ·exact .inl (adv_lt _ _ _ _ h3)
 ·exact .inr h3
def SlOk (V : List (List Ev)) (s : Sl) : Prop := s.ev.length = V.length ∧ ∀ v i x, nth s.ev v = some i → nth V v = some x → i < (x.length : Int)
theorem evs_ok {V : List (List Ev)} {A : List Nat} (h : PlOk V A) (t d : Ti) : SlOk V ⟨t, d, evs V t A⟩ := by
 refine ⟨by show (evs V t A).length = _; unfold evs; rw [List.length_zipWith]; have := h.1; omega, fun v i x hi hx => ?_⟩
 obtain ⟨x', k0, e1, e2, rfl⟩ := nth_unzip hi
 rw [hx] at e1
 cases e1
 rcases h.2 v k0 x e2 hx with h3 | h3
 ·have := adv_lt (x.length - k0) x t k0 h3
  have h4 := hr_le x t (advE x t k0)
  have h5 : advE x t k0 < x.length := this
  omega
 ·subst h3
  rw [hr_nil]
  decide
theorem slG_ok {V : List (List Ev)} : ∀ (l : List Ti) (A : List Nat), PlOk V A → ∀ s, s ∈ (slG V l A).1 → SlOk V s
 | [], _, _, s, hs => (List.not_mem_nil hs).elim
 | [_], _, _, s, hs => (List.not_mem_nil hs).elim
 | t :: u :: r, A, h, s, hs => by
  cases he : ((subE u t).2 != 0) with
  | true => rw [slG_1 he] at hs; exact (List.not_mem_nil hs).elim
  | false =>
   rw [slG_2 he] at hs
   rcases List.mem_cons.1 hs with rfl | hs
   ·exact evs_ok h t _
   ·exact slG_ok (u :: r) (upd V t A) (h.step t) s hs
theorem slG_len {V : List (List Ev)} : ∀ (l : List Ti) (A : List Nat), (slG V l A).1.length ≤ l.length
 | [], _ => Nat.le_refl _
 | [_], _ => Nat.zero_le _
 | t :: u :: r, A => by
  cases he : ((subE u t).2 != 0) with
  | true => rw [slG_1 he]; exact Nat.zero_le _
  | false =>
   rw [slG_2 he]
   have := slG_len (V := V) (u :: r) (upd V t A)
   show (slG V (u :: r) (upd V t A)).1.length + 1 ≤ (u :: r).length + 1
   omega
theorem sls_wf {V : List (List Ev)} : WF V (slsE V).1 := by
 have h0 : ∀ s, s ∈ (slE V).1 → SlOk V s := slG_ok _ _ ⟨by simp, fun j k x hk hx => by
  obtain ⟨y, _, rfl⟩ := nth_unmap2 hk
  cases x with
  | nil => exact .inr rfl
  | cons => exact .inl (by simp)⟩
 intro n s hs
 have hm := nth_mem hs
 cases h1 : ((acE V).1 != 0) with
 | true => rw [sls_1 h1] at hm; exact (List.not_mem_nil hm).elim
 | false =>
  by_cases h2 : (slE V).2 = 0
  ·rw [sls_3 h1 h2] at hm; exact h0 s hm
  ·rw [sls_2 h1 h2] at hm; exact (List.not_mem_nil hm).elim
theorem sls_len {V : List (List Ev)} (hn : V.length ≤ 8) (hV : ∀ x, x ∈ V → x.length ≤ 2000) : (slsE V).1.length ≤ 20000 := by
 have h := slG_len (V := V) (moE V) (V.map fun _ => 0)
 have h3 := moE_len hn hV
 cases h1 : ((acE V).1 != 0) with
 | true => rw [sls_1 h1]; exact Nat.zero_le _
 | false =>
  by_cases h2 : (slE V).2 = 0
  ·rw [sls_3 h1 h2]; exact Nat.le_trans h h3
  ·rw [sls_2 h1 h2]; exact Nat.zero_le _
theorem sls_e {V : List (List Ev)} (h : ((slsE V).2 != 0) = false) : ((acE V).1 != 0) = false := by
 cases h1 : ((acE V).1 != 0) with
 | false => rfl
 | true => rw [sls_1 h1] at h; rw [h1] at h; cases h
end Go.Proofs.YtgiibikieblicaaGreatDoor
namespace Go.Proofs.YtgiibikieblicaaGreatDoor
open Go.Cm Go
set_option maxRecDepth 100000
variable {S : St}
structure Par where
 n : Int
 a : Int
 b : Int
 k : Int
 st : Int
def Par.cells (p : Par) : List Value := [.int .i64 p.n, .int .i64 p.a, .int .i64 p.b, .int .i64 p.k, .int .i64 p.st]
def prI (V : List (List Ev)) (L : List Sl) (n a b : Nat) : List Par := bif decide ((kmE V L a b n).1 > 0) then [⟨n, a, b, (kmE V L a b n).1, (kmE V L a b n).2⟩] else []
theorem prI_1 {V : List (List Ev)} {L : List Sl} {n a b : Nat} (h : decide ((kmE V L a b n).1 > 0) = true) : prI V L n a b = [⟨n, a, b, (kmE V L a b n).1, (kmE V L a b n).2⟩] := by unfold prI; rw [h]; rfl
theorem prI_2 {V : List (List Ev)} {L : List Sl} {n a b : Nat} (h : decide ((kmE V L a b n).1 > 0) = false) : prI V L n a b = [] := by unfold prI; rw [h]; rfl
def prB (V : List (List Ev)) (L : List Sl) (n a : Nat) : Nat → Nat → List Par
 | 0, _ => []
 | f + 1, b => prI V L n a b ++ prB V L n a f (b + 1)
def prA (V : List (List Ev)) (L : List Sl) (n : Nat) : Nat → Nat → List Par
 | 0, _ => []
 | f + 1, a => prB V L n a (V.length - (a + 1)) (a + 1) ++ prA V L n f (a + 1)
noncomputable def cFi : Code := Tryz.f24.body.getD .skip
noncomputable def rp23 : Code := pA (Cm.pB (Cm.pB (pA (pA (Cm.pB (Cm.pB (pA (pA (Cm.pB (pA (Cm.pB (Cm.pB (Cm.pB (Cm.pB cFi))))))))))))))
structure Fp where
 lb : Nat
 db : Nat
 bp : Nat
 b4 : Nat
 b6 : Nat
 b7 : Nat
 t : Tm
 n : Nat
 aV : Option Addr
 aS : Option Addr
 cV : Nat
 cS : Nat
 V : List (List Ev)
 L : List Sl
noncomputable def Fp.l (z : Fp) (ov : Value) : List (Nat × Blk) := [(z.b7, .cells [.int .i64 (z.n : Int)] 3 false true []), (z.b6, .cells [ov] 56 false true []), (z.b4, .cells [.slice z.aV z.V.length z.cV, .slice z.aS z.L.length z.cS] 73 false true []), (z.lb, .loop .ready none 52 z.t (rgP rp23) (rgA rp23) (rgB rp23) z.db), (z.db, .defs false), (z.bp, .cells [.int .i64 (z.V.length : Int)] 3 false true [])]
theorem round_pr {Sb Sm S : St} (z : Fp) (hz : Has 52 ⟨52, z.t, []⟩ [(7, ptrTo z.b7 0), (6, ptrTo z.b6 0), (4, ptrTo z.b4 0)]) {fo rest : List (Nat × Blk)} {ov : Value} {D : List Par} {a b : Nat} (hF : Fresh Sb) (hG : Gl Sb) (hs : SetAt Sm z.aV z.aS z.cV z.cS z.V z.L) (ha : a < z.V.length) (hb : b < z.V.length) (hn : z.n < z.L.length) (hD : D.length ≤ 2000000) (hg : GB ov 61 5 ((D.map Par.cells).flatten) D.length fo) (hl : HoldG Sb [Sm, Sb] S (z.l ov ++ (fo ++ rest)) []) :
  CT Tryz.prog KK (.fn (.yield z.lb) #[]) [.int .i64 (a : Int), .int .i64 (b : Int)] S fun r S' => r = .returned (.bool true) ∧ ∃ ov' fo', GB ov' 61 5 (((D ++ prI z.V z.L z.n a b).map Par.cells).flatten) (D ++ prI z.V z.L z.n a b).length fo' ∧ HoldG Sb [Sm, Sb] S' (z.l ov' ++ (fo' ++ rest)) [] := by
 refine ct_round (hl.get 3 rfl) hz rfl rfl ?_; refine zg ?_
 refine ⟨rfl, _, _, _, _, _, _, _, hl.get 3 rfl, ?_⟩
 have hl := hl.put (k := 3) rfl rfl (.loop .busy none 52 z.t (rgP rp23) (rgA rp23) (rgB rp23) z.db)
 refine zg ?_
 refine zc hl rfl (spec33 z.aV z.aS z.cV z.cS z.V z.L a b z.n (hl.keep.3 hF) (hG.keep hl.keep) (hs.move (hl.since 0 rfl)) ha hb hn) ?_; rintro v S1 hk1 rfl hl
 refine zg ?_
 constructor <;> intro h40
 ·refine zg ?_
  refine rr rfl (rd_build rfl rfl (v := aggL (Par.cells ⟨z.n, a, b, (kmE z.V z.L a b z.n).1, (kmE z.V z.L a b z.n).2⟩)) (by rfl)) ?_; refine re_buildSliceR hl rfl rfl rfl rfl rfl Tryz.underlying56 rfl (c := Par.cells ⟨z.n, a, b, (kmE z.V z.L a b z.n).1, (kmE z.V z.L a b z.n).2⟩) (by kernel_rfl) ?_; intro B48 S1 hr48 hl
  have hl : HoldG Sb [Sm, Sb] _ (putB 3 (.loop .busy none 52 z.t (rgP rp23) (rgA rp23) (rgB rp23) z.db) (z.l ov) ++ (fo ++ rest)) [] := hl
  have hl := hl.perm (List.perm_append_comm_assoc _ fo rest)
  refine re_appendB hl hg rfl rfl rfl rfl rfl rfl rfl Tryz.underlying56 Tryz.underlying56 rfl rfl (by decide) (by kernel_rfl) (src_row (new := Par.cells ⟨z.n, a, b, (kmE z.V z.L a b z.n).1, (kmE z.V z.L a b z.n).2⟩) hr48 rfl) rfl rfl (by kernel_rfl) (by show D.length + 1 ≤ maxNeed; unfold maxNeed; omega) ?_; intro ov' fo' S2 hg' hl
  have hl := hl.perm (List.perm_append_comm_assoc fo' (putB 3 (.loop .busy none 52 z.t (rgP rp23) (rgA rp23) (rgB rp23) z.db) (z.l ov)) rest)
  obtain ⟨oa, rfl⟩ := GB.is hg'
  refine re_storeL hl 1 rfl rfl rfl rfl rfl rfl rfl (by kernel_rfl) rfl ?_; intro S1 hl; refine zg ?_
  refine ⟨_, _, _, _, _, _, _, _, hl.get 3 rfl, rfl, .slice oa (D.length + 1) (D.length + 1), fo', ?_, ?_⟩
  ·rw [prI_1 h40, List.map_append, List.flatten_append, List.length_append]
   exact hg'
  exact hl.put (k := 3) rfl rfl (.loop .ready none 52 z.t (rgP rp23) (rgA rp23) (rgB rp23) z.db)
 ·refine zg ?_
  refine ⟨_, _, _, _, _, _, _, _, hl.get 3 rfl, rfl, ov, fo, ?_, ?_⟩
  ·rw [prI_2 h40, List.append_nil]
   exact hg
  exact hl.put (k := 3) rfl rfl (.loop .ready none 52 z.t (rgP rp23) (rgA rp23) (rgB rp23) z.db)
end Go.Proofs.YtgiibikieblicaaGreatDoor
namespace Go.Proofs.YtgiibikieblicaaGreatDoor
open Go.Cm Go
set_option maxRecDepth 100000
variable {S : St}
theorem prI_len (V : List (List Ev)) (L : List Sl) (n a b : Nat) : (prI V L n a b).length ≤ 1 := by
 cases h : decide ((kmE V L a b n).1 > 0) with
 | true => rw [prI_1 h]; exact Nat.le_refl _
 | false => rw [prI_2 h]; exact Nat.zero_le _
noncomputable def cd32 : Code := Tryz.f32.body.getD .skip
theorem spec32 (m : Int) : CC Tryz.prog KK 32 [.int .i64 m] S (fun v S' => Keep S S' ∧ ∃ bp, v = .func (.func 40) #[] #[ptrTo bp 0] ∧ HoldG S [S] S' [(bp, .cells [.int .i64 m] 3 false true [])] []) := by
 refine cc_enter (c := cd32) (n := 4) Tryz.func32 rfl rfl rfl (by kernel_rfl) rfl rfl ?_
 have hl := Hold.start S
 refine zg ?_; refine re_boxL hl rfl rfl rfl rfl rfl rfl ?_; intro B1 S1 hl; refine zg ?_; refine rr rfl (rd_func rfl rfl rfl) ?_; refine zg ?_
 refine y1 rfl ⟨hl.keep, ⟨B1, rfl, hl⟩⟩
noncomputable def c40 : Code := Tryz.f40.body.getD .skip
theorem spec40 {Sb Sm S : St} (z : Fp) (hz : Has 52 ⟨52, z.t, []⟩ [(7, ptrTo z.b7 0), (6, ptrTo z.b6 0), (4, ptrTo z.b4 0)]) {fo0 rest : List (Nat × Blk)} {ov0 : Value} {D0 : List Par} (hF : Fresh Sb) (hG : Gl Sb) (hs : SetAt Sm z.aV z.aS z.cV z.cS z.V z.L) (hn : z.n < z.L.length) (hD : D0.length ≤ 1900000) (hg : GB ov0 61 5 (((D0).map Par.cells).flatten) (D0).length fo0) (hl : HoldG Sb [Sm, Sb] S (z.l ov0 ++ (fo0 ++ rest)) []) : CC Tryz.prog KK 40 [.func (.yield z.lb) #[] #[], ptrTo z.bp 0] S (fun v S' => v = tupV [] ∧ ∃ ov fo, GB ov 61 5 (((D0 ++ prA z.V z.L z.n z.V.length 0).map Par.cells).flatten) (D0 ++ prA z.V z.L z.n z.V.length 0).length fo ∧ HoldG Sb [Sm, Sb] S' (z.l ov ++ (fo ++ rest)) []) := by
 refine cc_enter (c := c40) (n := 22) Tryz.func40 rfl rfl rfl (by kernel_rfl) rfl rfl ?_
 have hVn := hs.hn
 refine zS ?_; refine xp_block rfl ?_
 -- LOOP
 refine xe_sub (L' := [(6, .int .i64 0), (5, .int .i64 (z.V.length : Int)), (0, .func (.yield z.lb) #[] #[]), (1, ptrTo z.bp 0)]) ⟨rfl, rfl, rfl, rfl, trivial⟩ ?_
 refine xp_loop rfl (fun m Le S' => ∃ (a : Nat) (ov : Value) (fo : List (Nat × Blk)) (D : List Par), a ≤ z.V.length ∧ m = z.V.length - a ∧ D.length ≤ D0.length + 8 * a ∧ D ++ prA z.V z.L z.n (z.V.length - a) a = D0 ++ prA z.V z.L z.n z.V.length 0 ∧ GB ov 61 5 (((D).map Par.cells).flatten) (D).length fo ∧ SubE [(6, .int .i64 (a : Int)), (5, .int .i64 (z.V.length : Int)), (0, .func (.yield z.lb) #[] #[]), (1, ptrTo z.bp 0)] Le ∧ HoldG Sb [Sm, Sb] S' (z.l ov ++ (fo ++ rest)) []) ?_ (m := z.V.length) ⟨0, ov0, fo0, D0, Nat.zero_le _, rfl, Nat.le_refl _, rfl, hg, ⟨rfl, rfl, rfl, rfl, trivial⟩, hl⟩
 clear hl; rintro m Le S' ⟨a, ov, fo, D, ha, rfl, hDl, hpr, hgD, hsub, hl⟩; refine xe_sub hsub ?_
 refine zg ?_
 constructor <;> intro h7
 ·
  have hlt : a < z.V.length := by have := of_decide_eq_true h7; omega
  rw [show z.V.length - a = (z.V.length - (a + 1)) + 1 by omega, prA] at hpr
  refine xp_skip rfl ?_; refine xp_seq rfl ?_; refine xp_block rfl ?_; iterate 2 refine zS ?_
  refine xp_block rfl ?_
  -- LOOP
  refine xe_sub (L' := [(4, .int .i64 ((a + 1 : Nat) : Int)), (3, .int .i64 (a : Int)), (6, .int .i64 (a : Int)), (5, .int .i64 (z.V.length : Int)), (0, .func (.yield z.lb) #[] #[]), (1, ptrTo z.bp 0)]) ⟨rfl, rfl, rfl, rfl, rfl, rfl, trivial⟩ ?_
  refine xp_loop rfl (fun m Le S' => ∃ (b : Nat) (ov2 : Value) (fo2 : List (Nat × Blk)) (D2 : List Par), a + 1 ≤ b ∧ b ≤ z.V.length ∧ m = z.V.length - b ∧ D2.length ≤ D0.length + 8 * a + (b - a) ∧ D2 ++ prB z.V z.L z.n a (z.V.length - b) b = D ++ prB z.V z.L z.n a (z.V.length - (a + 1)) (a + 1) ∧ GB ov2 61 5 (((D2).map Par.cells).flatten) (D2).length fo2 ∧ SubE [(4, .int .i64 (b : Int)), (3, .int .i64 (a : Int)), (6, .int .i64 (a : Int)), (5, .int .i64 (z.V.length : Int)), (0, .func (.yield z.lb) #[] #[]), (1, ptrTo z.bp 0)] Le ∧ HoldG Sb [Sm, Sb] S' (z.l ov2 ++ (fo2 ++ rest)) []) ?_ (m := z.V.length - (a + 1)) ⟨a + 1, ov, fo, D, Nat.le_refl _, hlt, rfl, by omega, rfl, hgD, ⟨rfl, rfl, rfl, rfl, rfl, rfl, trivial⟩, hl⟩
  clear hl; rintro m Le S' ⟨b, ov2, fo2, D2, hb1, hb2, rfl, hD2, hpr2, hg2, hsub2, hl⟩; refine xe_sub hsub2 ?_
  refine zg ?_
  constructor <;> intro h13
  ·
   have hlt2 : b < z.V.length := by have := of_decide_eq_true h13; omega
   rw [show z.V.length - b = (z.V.length - (b + 1)) + 1 by omega, prB] at hpr2
   refine zg ?_
   refine re_callT rfl rfl rfl rfl rfl rfl rfl (ct_mono (round_pr z hz hF hG hs hlt hlt2 hn (by omega) hg2 hl) ?_); rintro r S2 ⟨rfl, ov3, fo3, hg3, hl⟩
   refine rr rfl (rd_un rfl rfl rfl) ?_; refine zg ?_
   constructor <;> intro h20
   ·
    exact absurd h20 (by decide)
   ·
    refine zg ?_
    refine ⟨z.V.length - (b + 1), by omega, b + 1, ov3, fo3, D2 ++ prI z.V z.L z.n a b, by omega, by omega, rfl, ?_, by rw [List.append_assoc]; exact hpr2, hg3, ⟨rfl, rfl, rfl, rfl, rfl, rfl, trivial⟩, hl⟩
    have := prI_len z.V z.L z.n a b
    rw [List.length_append]
    omega
  ·
   refine zg ?_
   have he : D2 = D ++ prB z.V z.L z.n a (z.V.length - (a + 1)) (a + 1) := by rw [← hpr2, show z.V.length - b = 0 by have := of_decide_eq_false h13; omega]; exact (List.append_nil _).symm
   exact ⟨z.V.length - (a + 1), by omega, a + 1, ov2, fo2, D2, by omega, rfl, by omega, by rw [he, List.append_assoc]; exact hpr, hg2, ⟨rfl, rfl, rfl, rfl, trivial⟩, hl⟩
 ·
  refine zg ?_
  have he : D = D0 ++ prA z.V z.L z.n z.V.length 0 := by rw [← hpr, show z.V.length - a = 0 by have := of_decide_eq_false h7; omega]; exact (List.append_nil _).symm
  exact ⟨[], rfl, rfl, ov, fo, he ▸ hgD, hl⟩
end Go.Proofs.YtgiibikieblicaaGreatDoor
namespace Go.Proofs.YtgiibikieblicaaGreatDoor
open Go.Cm Go
set_option maxRecDepth 100000
variable {S : St}
def fnG (V : List (List Ev)) (L : List Sl) : Nat → Nat → List Par
 | 0, _ => []
 | f + 1, n => prA V L n V.length 0 ++ fnG V L f (n + 1)
def fnE (V : List (List Ev)) : List Par × Int := bif (slsE V).2 != 0 then ([], (slsE V).2) else (fnG V (slsE V).1 (slsE V).1.length 0, 0)
theorem fn_1 {V : List (List Ev)} (h : ((slsE V).2 != 0) = true) : fnE V = ([], (slsE V).2) := by unfold fnE; rw [h]; rfl
theorem fn_2 {V : List (List Ev)} (h : ((slsE V).2 != 0) = false) : fnE V = (fnG V (slsE V).1 (slsE V).1.length 0, 0) := by unfold fnE; rw [h]; rfl
theorem prB_len (V : List (List Ev)) (L : List Sl) (n a : Nat) : ∀ f b, (prB V L n a f b).length ≤ f
 | 0, _ => Nat.le_refl _
 | f + 1, b => by
  have h1 := prI_len V L n a b
  have h2 := prB_len V L n a f (b + 1)
  rw [prB, List.length_append]
  omega
theorem prA_len (V : List (List Ev)) (L : List Sl) (n : Nat) (hV : V.length ≤ 8) : ∀ f a, (prA V L n f a).length ≤ 8 * f
 | 0, _ => Nat.le_refl _
 | f + 1, a => by
  have h1 := prB_len V L n a (V.length - (a + 1)) (a + 1)
  have h2 := prA_len V L n hV f (a + 1)
  rw [prA, List.length_append]
  omega
abbrev Pars := LsOf 61 5 Par.cells
theorem HoldG.joinT {S0 S1 S2 : St} {Ts : List St} {l r : List (Nat × Blk)} (h0 : HoldG S0 Ts S1 l []) (h1 : HoldG S1 [S1] S2 r []) : HoldG S0 Ts S2 (l ++ r) [] := by
 refine ⟨h0.keep.trans h1.keep, ?_, fun b x hx => ?_, fun T ht => (h0.rk T ht).trans h1.keep.rk, fun g hg => (List.not_mem_nil hg).elim⟩
 ·rw [List.map_append]
  refine List.nodup_append.2 ⟨h0.nd, h1.nd, fun a ha c hc => ?_⟩
  obtain ⟨⟨a, x⟩, ha1, rfl⟩ := List.mem_map.1 ha
  obtain ⟨⟨c, y⟩, hc1, rfl⟩ := List.mem_map.1 hc
  have e1 := (h0.at_ a x ha1).2.2
  have e2 := (h1.at_ c y hc1).2.1
  show a ≠ c
  omega
 ·rcases List.mem_append.1 hx with hx | hx
  ·obtain ⟨e1, e2, e3⟩ := h0.at_ b x hx
   exact ⟨(h1.keep.2 b e3).trans e1, e2, Nat.lt_of_lt_of_le e3 h1.keep.1⟩
  ·obtain ⟨e1, e2, e3⟩ := h1.at_ b x hx
   exact ⟨e1, Nat.le_trans h0.keep.1 e2, e3⟩
theorem mem_nth {α : Type} : ∀ {l : List α} {x : α}, x ∈ l → ∃ i, nth l i = some x
 | y :: l, x, h => by
  rcases List.mem_cons.1 h with rfl | h
  ·exact ⟨0, rfl⟩
  ·obtain ⟨i, hi⟩ := mem_nth h
   exact ⟨i + 1, hi⟩
theorem putB_keep {b : Nat} {x y : Blk} {p : Nat × Blk} : ∀ {l : List (Nat × Blk)} {i : Nat}, nth l i = some (b, x) → p ∈ l → p.1 ≠ b → p ∈ putB i y l
 | q :: l, 0, hi, hp, hne => by
  have e : q = (b, x) := Option.some.inj hi
  rcases List.mem_cons.1 hp with h | h
  ·rw [h, e] at hne; exact absurd rfl hne
  ·cases q; exact List.mem_cons_of_mem _ h
 | q :: l, i + 1, hi, hp, hne => by
  have hr : p ∈ l → p ∈ putB i y l := fun h => putB_keep (y := y) (l := l) (i := i) hi h hne
  rcases List.mem_cons.1 hp with h | h
  ·rw [h]; cases q; exact List.mem_cons_self
  ·cases q; exact List.mem_cons_of_mem _ (hr h)
theorem tm_all {S0 : St} {Ts : List St} : ∀ (ks : List Nat) {S : St} {l : List (Nat × Blk)}, ks.Nodup → HoldG S0 Ts S l [] → (∀ k, k ∈ ks → (k, Blk.defs false) ∈ l) → ∃ S2 l2, takeMarks (ks.map markOf) S = some S2 ∧ HoldG S0 Ts S2 l2 [] ∧ ∀ p, p ∈ l → p.1 ∉ ks → p ∈ l2
 | [], S, l, _, hl, _ => ⟨S, l, rfl, hl, fun p hp _ => hp⟩
 | k :: ks, S, l, hn, hl, hm => by
  obtain ⟨i, hi⟩ := mem_nth (hm k (List.mem_cons_self ..))
  have hg := hl.get i hi
  have hn2 := List.nodup_cons.1 hn
  have hl2 := hl.put hi rfl (.defs true)
  obtain ⟨S2, l2, h1, h2, h3⟩ := tm_all ks hn2.2 hl2 (fun j hj => putB_keep hi (hm j (List.mem_cons_of_mem _ hj)) (fun e => hn2.1 (e ▸ hj)))
  refine ⟨S2, l2, ?_, h2, fun p hp hne => h3 p (putB_keep hi hp (fun e => hne (e ▸ List.mem_cons_self ..))) (fun hk => hne (List.mem_cons_of_mem _ hk))⟩
  show takeMarks (markOf k :: ks.map markOf) S = _
  unfold markOf takeMarks
  rw [hg]
  exact h1
theorem permF {α : Type} (A B X C : List α) : (A ++ (B ++ (X ++ C))).Perm ((B ++ (A ++ C)) ++ X) := by
 classical
 rw [List.perm_iff_count]
 intro a
 simp only [List.count_append]
 omega
theorem permG {α : Type} (A B C F R : List α) : (A ++ (B ++ C) ++ (F ++ R)).Perm (B ++ (F ++ ((A ++ C) ++ R))) := by
 classical
 rw [List.perm_iff_count]
 intro a
 simp only [List.count_append]
 omega
theorem spec24 (a : Option Addr) (cap : Nat) (V : List (List Ev)) (hF : Fresh S) (hG : Gl S) (hv : Vs S (.slice a V.length cap) V) : CC Tryz.prog KK 24 [.slice a V.length cap] S (fun v S' => Keep S S' ∧ ∃ w, v = tupV [w, .int .i64 (fnE V).2] ∧ Pars S' w (fnE V).1) := by
 refine cc_enterM (c := cFi) (n := 52) Tryz.func24 rfl rfl rfl (by kernel_rfl) rfl rfl ?_
 have hl := Hold.start S
 refine xdp_seq rfl (xd_of_xe ?_); refine zg ?_; refine xdp_seq rfl (xd_of_xe ?_); refine zg ?_
 refine zc hl rfl (spec31 a cap V (hl.keep.3 hF) (hv.move (hl.since 0 rfl))) ?_; rintro v Sm hk1 ⟨w, rfl, hs1⟩ hl
 obtain ⟨aS, cS, rfl⟩ := Sls.is hs1
 have hl := hl.mark
 refine zg ?_; refine re_allocL hl rfl rfl rfl rfl rfl (z := [.slice none 0 0, .slice none 0 0]) (by kernel_rfl) ?_; intro B4 S4 hl; refine re_storeL hl 0 rfl rfl rfl rfl rfl rfl rfl (by kernel_rfl) rfl ?_; intro S1 hl; refine zg ?_; refine xdp_seq rfl (xd_of_xe ?_); refine zg ?_
 constructor <;> intro h18
 ·
  refine zg ?_
  exact ⟨_, _, rfl, ress_tmp rfl (ress_tmp rfl rfl), hl.keep, .slice none 0 0, by rw [fn_1 h18], by rw [fn_1 h18]; exact LsOf.nil⟩
 refine zg ?_
 obtain ⟨hn, hV⟩ := ac_ok (sls_e h18)
 have hset : SetAt Sm a aS cap cS V (slsE V).1 := ⟨hv.move hk1.rk, hs1, sls_wf, hn, hV, sls_len hn hV⟩
 have hLn := hset.hL
 refine xdp_seq rfl (xd_of_xe ?_); refine zg ?_; refine re_allocL hl rfl rfl rfl rfl rfl (z := [.slice none 0 0]) (by kernel_rfl) ?_; intro B6 S6 hl; refine zg ?_; refine xdp_seq rfl ?_; refine xdp_seq rfl (xd_of_xe ?_); refine zg ?_; refine xdp_block rfl ?_; refine xd_sub (L' := [(23, .int .i64 0), (22, .int .i64 ((slsE V).1.length : Int)), (6, ptrTo B6 0), (4, ptrTo B4 0), (3, .int .i64 0), (2, .slice none 0 0), (0, .slice a V.length cap)]) ⟨rfl, rfl, rfl, rfl, rfl, rfl, rfl, trivial⟩ ?_
 refine xdp_loop rfl (fun m Le S' ds => ∃ (n : Nat) (ov : Value) (fo rest : List (Nat × Blk)) (D : List Par) (ks : List Nat), n ≤ (slsE V).1.length ∧ m = (slsE V).1.length - n ∧ ds = ks.map markOf ∧ (∀ k, k ∈ ks → (k, Blk.defs false) ∈ rest) ∧ ks.Nodup ∧ D.length ≤ 64 * n ∧ D ++ fnG V (slsE V).1 ((slsE V).1.length - n) n = fnG V (slsE V).1 (slsE V).1.length 0 ∧ GB ov 61 5 (((D).map Par.cells).flatten) (D).length fo ∧ SubE [(23, .int .i64 (n : Int)), (22, .int .i64 ((slsE V).1.length : Int)), (6, ptrTo B6 0), (4, ptrTo B4 0), (3, .int .i64 0), (2, .slice none 0 0), (0, .slice a V.length cap)] Le ∧ HoldG S [Sm, S] S' ([(B6, Blk.cells [ov] 56 false true []), (B4, Blk.cells [.slice a V.length cap, .slice aS (slsE V).1.length cS] 73 false true [])] ++ (fo ++ rest)) []) ?_ (m := (slsE V).1.length) ⟨0, .slice none 0 0, [], [], [], [], Nat.zero_le _, rfl, rfl, fun k hk => (List.not_mem_nil hk).elim, List.nodup_nil, Nat.le_refl _, rfl, .inl ⟨rfl, rfl, rfl, rfl⟩, ⟨rfl, rfl, rfl, rfl, rfl, rfl, rfl, trivial⟩, hl⟩
 clear hl; rintro m Le Sh ds ⟨n, ov, fo, rest, D, ks, hnl, rfl, rfl, hks, hnd, hDl, hpr, hg, hsub, hl⟩; refine xd_sub hsub ?_
 refine xdp_seq rfl (xd_of_xe ?_); refine zg ?_; refine xdp_seq rfl (xd_of_xe ?_); refine zg ?_
 constructor <;> intro h24
 ·
  have hlt : n < (slsE V).1.length := by have := of_decide_eq_true h24; omega
  rw [show (slsE V).1.length - n = ((slsE V).1.length - (n + 1)) + 1 by omega, fnG] at hpr
  refine zg ?_; refine xdp_seq rfl ?_; refine xdp_block rfl ?_; refine xdp_seq rfl (xd_of_xe ?_); refine zg ?_; refine re_allocL hl rfl rfl rfl rfl rfl (z := [.int .i64 0]) (by kernel_rfl) ?_; intro B7 S7 hl; refine re_storeL hl 0 rfl rfl rfl rfl rfl rfl rfl (by kernel_rfl) rfl ?_; intro S1 hl; refine zg ?_; refine xdp_seq rfl (xd_of_xe ?_); refine zg ?_
  have hl : HoldG S [Sm, S] _ ([(B7, Blk.cells [.int .i64 (n : Int)] 3 false true [])] ++ ([(B6, Blk.cells [ov] 56 false true []), (B4, Blk.cells [.slice a V.length cap, .slice aS (slsE V).1.length cS] 73 false true [])] ++ (fo ++ rest))) [] := hl
  have hl0 := hl
  refine zc hl rfl (cc_mono (spec32 (V.length : Int)) fun v S' h => ⟨(by obtain ⟨_, _, _, h2⟩ := h; exact h2.keep), h⟩) ?_; rintro v S8 hk8 ⟨_, bp, rfl, hb⟩ hl
  have hl := HoldG.joinT hl0 hb
  refine zg ?_; refine xdp_block rfl (xd_range rfl rfl rfl (by kernel_rfl) ?_)
  intro t ht
  have hl := (hl.new (.defs false)).new (.loop .ready none 52 t (rgP rp23) (rgA rp23) (rgB rp23) S8.size)
  let z : Fp := ⟨S8.size + 1, S8.size, bp, B4, B6, B7, t, n, a, aS, cap, cS, V, (slsE V).1⟩
  have hl : HoldG S [Sm, S] _ ([(S8.size + 1, Blk.loop .ready none 52 t (rgP rp23) (rgA rp23) (rgB rp23) S8.size), (S8.size, Blk.defs false)] ++ ([(B7, Blk.cells [.int .i64 (n : Int)] 3 false true []), (B6, Blk.cells [ov] 56 false true []), (B4, Blk.cells [.slice a V.length cap, .slice aS (slsE V).1.length cS] 73 false true [])] ++ ((fo ++ rest) ++ [(bp, Blk.cells [.int .i64 (V.length : Int)] 3 false true [])]))) [] := hl
  have hl : HoldG S [Sm, S] _ (z.l ov ++ (fo ++ rest)) [] := hl.perm (permF _ _ _ _)
  refine ct_mono (ct_func (ce_of_cc (spec40 z (ht.sub (L' := [(7, ptrTo B7 0), (6, ptrTo B6 0), (4, ptrTo B4 0)]) ⟨rfl, rfl, rfl, trivial⟩) hF hG hset hlt (by omega) hg hl))) ?_
  rintro r S9 ⟨v, rfl, rfl, ov2, fo2, hg2, hl⟩
  have hks2 : S8.size ∉ ks := fun hm => by
   have := (hl0.at_ _ _ (List.mem_append.2 (.inr (List.mem_append.2 (.inr (List.mem_append.2 (.inr (hks _ hm)))))))).2.2
   have h3 := hk8.1
   omega
  refine ⟨_, _, _, _, _, _, _, _, hl.get 3 rfl, rfl, ?_⟩
  have hl := hl.put (k := 3) rfl rfl (.loop .exhausted none 52 t (rgP rp23) (rgA rp23) (rgB rp23) S8.size)
  refine xd_of_xe ?_; refine zg ?_
  have hpl := prA_len V (slsE V).1 n hn V.length 0
  have hl : HoldG S [Sm, S] _ ([(B7, Blk.cells [.int .i64 (n : Int)] 3 false true [])] ++ ([(B6, Blk.cells [ov2] 56 false true []), (B4, Blk.cells [.slice a V.length cap, .slice aS (slsE V).1.length cS] 73 false true [])] ++ [(S8.size + 1, Blk.loop .exhausted none 52 t (rgP rp23) (rgA rp23) (rgB rp23) S8.size), (S8.size, Blk.defs false), (bp, Blk.cells [.int .i64 (V.length : Int)] 3 false true [])]) ++ (fo2 ++ rest)) [] := hl
  refine ⟨(slsE V).1.length - (n + 1), by omega, n + 1, ov2, fo2, _, D ++ prA V (slsE V).1 n V.length 0, S8.size :: ks, by omega, rfl, rfl, ?_, List.nodup_cons.2 ⟨hks2, hnd⟩, by rw [List.length_append]; omega, by rw [List.append_assoc]; exact hpr, hg2, ⟨rfl, rfl, rfl, rfl, rfl, rfl, rfl, trivial⟩, hl.perm (permG _ _ _ _ _)⟩
  intro k hk
  rcases List.mem_cons.1 hk with rfl | hk
  ·simp
  ·have := hks k hk
   simp [this]
 ·
  refine zg ?_; refine xdp_seq rfl (xd_of_xe ?_); refine xg (by kernel_rfl) ?_; refine rr rfl (rd_load rfl rfl (l1 (hl.get 0 rfl) rfl)) ?_; iterate 2 refine rm rfl ?_
  refine re_end rfl ?_; refine xd_of_xe (xp_ret rfl ?_)
  have he : fnG V (slsE V).1 (slsE V).1.length 0 = D := by rw [← hpr, show (slsE V).1.length - n = 0 by have := of_decide_eq_false h24; omega]; exact List.append_nil _
  obtain ⟨S2, l2, ht, hl2, hk2⟩ := tm_all ks hnd hl (fun k hk => List.mem_append.2 (.inr (List.mem_append.2 (.inr (hks k hk)))))
  refine ⟨S2, _, ht, ress_tmp rfl (ress_tmp rfl rfl), hl2.keep, ov, by rw [fn_2 h18], ?_⟩
  rw [fn_2 h18, he]
  refine GB.ls (f := Par.cells) (fun _ => rfl) hg hl2 (fun p hp => hk2 p (List.mem_append.2 (.inr (List.mem_append.2 (.inl hp)))) ?_)
  intro hpk
  have e1 := (hl.at_ p.1 p.2 (List.mem_append.2 (.inr (List.mem_append.2 (.inl hp))))).1
  have e2 := (hl.at_ p.1 (.defs false) (List.mem_append.2 (.inr (List.mem_append.2 (.inr (hks _ hpk)))))).1
  rw [e1] at e2
  have e3 : p.2 = .defs false := Option.some.inj e2
  rcases hg with ⟨_, _, _, rfl⟩ | ⟨b, kin, _, _, rfl⟩
  ·cases hp
  ·rw [List.mem_singleton.1 hp] at e3; cases e3
end Go.Proofs.YtgiibikieblicaaGreatDoor
namespace Go.Proofs.YtgiibikieblicaaGreatDoor
open Go.Cm Go
set_option maxRecDepth 100000
variable {S : St}
theorem km_le (V : List (List Ev)) (L : List Sl) (a b n : Nat) : (kmE V L a b n).1 ≤ 3 := by
 unfold kmE
 cases kmB V L a b n <;> cases (pfE V L a b n).2 <;> cases tgB V L a b n <;> cases agB V L a b n <;> cases hdB V L a b n <;> first | exact (by decide : (0 : Int) ≤ 3) | exact (by decide : (1 : Int) ≤ 3) | exact (by decide : (2 : Int) ≤ 3) | exact (by decide : (3 : Int) ≤ 3)
theorem prI_k {V : List (List Ev)} {L : List Sl} {n a b : Nat} : ∀ p, p ∈ prI V L n a b → 1 ≤ p.k ∧ p.k ≤ 3 := by
 intro p hp
 cases h : decide ((kmE V L a b n).1 > 0) with
 | true =>
  rw [prI_1 h] at hp
  rw [List.mem_singleton.1 hp]
  have h1 := of_decide_eq_true h
  have h2 := km_le V L a b n
  show 1 ≤ (kmE V L a b n).1 ∧ (kmE V L a b n).1 ≤ 3
  omega
 | false => rw [prI_2 h] at hp; exact (List.not_mem_nil hp).elim
theorem prB_k {V : List (List Ev)} {L : List Sl} {n a : Nat} : ∀ f b p, p ∈ prB V L n a f b → 1 ≤ p.k ∧ p.k ≤ 3
 | 0, _, _, h => (List.not_mem_nil h).elim
 | f + 1, b, p, h => by
  rw [prB] at h
  rcases List.mem_append.1 h with h | h
  ·exact prI_k p h
  ·exact prB_k f (b + 1) p h
theorem prA_k {V : List (List Ev)} {L : List Sl} {n : Nat} : ∀ f a p, p ∈ prA V L n f a → 1 ≤ p.k ∧ p.k ≤ 3
 | 0, _, _, h => (List.not_mem_nil h).elim
 | f + 1, a, p, h => by
  rw [prA] at h
  rcases List.mem_append.1 h with h | h
  ·exact prB_k _ _ p h
  ·exact prA_k f (a + 1) p h
theorem fnG_k {V : List (List Ev)} {L : List Sl} : ∀ f n p, p ∈ fnG V L f n → 1 ≤ p.k ∧ p.k ≤ 3
 | 0, _, _, h => (List.not_mem_nil h).elim
 | f + 1, n, p, h => by
  rw [fnG] at h
  rcases List.mem_append.1 h with h | h
  ·exact prA_k _ _ p h
  ·exact fnG_k f (n + 1) p h
theorem fnE_k {V : List (List Ev)} (p : Par) (h : p ∈ (fnE V).1) : 1 ≤ p.k ∧ p.k ≤ 3 := by
 cases h1 : ((slsE V).2 != 0) with
 | true => rw [fn_1 h1] at h; exact (List.not_mem_nil h).elim
 | false => rw [fn_2 h1] at h; exact fnG_k _ _ p h
theorem fnG_len {V : List (List Ev)} {L : List Sl} (hV : V.length ≤ 8) : ∀ f n, (fnG V L f n).length ≤ 64 * f
 | 0, _ => Nat.le_refl _
 | f + 1, n => by
  have h1 := prA_len V L n hV V.length 0
  have h2 := fnG_len (L := L) hV f (n + 1)
  rw [fnG, List.length_append]
  omega
theorem fnE_len {V : List (List Ev)} : (fnE V).1.length ≤ 1280000 := by
 cases h1 : ((slsE V).2 != 0) with
 | true => rw [fn_1 h1]; exact Nat.zero_le _
 | false =>
  obtain ⟨hn, hV⟩ := ac_ok (sls_e h1)
  have h2 := sls_len hn hV
  have h3 := fnG_len (L := (slsE V).1) hn (slsE V).1.length 0
  rw [fn_2 h1]
  show (fnG _ _ _ _).length ≤ _
  omega
def c4 (c0 c1 c2 c3 : Int) : List Value := [.int .i64 c0, .int .i64 c1, .int .i64 c2, .int .i64 c3]
def s4 (k c1 c2 c3 : Int) : Int := bif k == 1 then c1 else bif k == 2 then c2 else c3
def u4 (k j x c : Int) : Int := bif k == j then x else c
theorem nth4 {k c0 c1 c2 c3 : Int} (h1 : 1 ≤ k) (h2 : k ≤ 3) : nth (c4 c0 c1 c2 c3) (0 + k.toNat * 1) = some (.int .i64 (s4 k c1 c2 c3)) := by
 obtain rfl | rfl | rfl : k = 1 ∨ k = 2 ∨ k = 3 := by omega
 all_goals rfl
theorem set4 {k c0 c1 c2 c3 x : Int} (h1 : 1 ≤ k) (h2 : k ≤ 3) : setN (0 + k.toNat * 1) (cellsL (.int .i64 x)) (c4 c0 c1 c2 c3) = some (c4 c0 (u4 k 1 x c1) (u4 k 2 x c2) (u4 k 3 x c3)) := by
 obtain rfl | rfl | rfl : k = 1 ∨ k = 2 ∨ k = 3 := by omega
 all_goals rfl
theorem s4_bd {k c1 c2 c3 m : Int} (h1 : 0 ≤ c1 ∧ c1 ≤ m) (h2 : 0 ≤ c2 ∧ c2 ≤ m) (h3 : 0 ≤ c3 ∧ c3 ≤ m) : 0 ≤ s4 k c1 c2 c3 ∧ s4 k c1 c2 c3 ≤ m := by
 unfold s4
 cases k == 1 <;> cases k == 2 <;> assumption
theorem u4_bd {k j x c m : Int} (hx : 0 ≤ x ∧ x ≤ m + 1) (hc : 0 ≤ c ∧ c ≤ m) : 0 ≤ u4 k j x c ∧ u4 k j x c ≤ m + 1 := by
 unfold u4
 cases k == j with
 | true => exact hx
 | false => exact ⟨hc.1, Int.le_trans hc.2 (by omega)⟩
theorem slice_arr {P : Program} {t e : TypeId} {b n z : Nat} {S : St} {c : List Value} {e2 : TypeId} {own : Bool} {kin : List Nat} (hu : P.underlying t = some (.array n e)) (hz : szOf P e = some z) (hg : S.get b = some (.cells c e2 false own kin)) : sliceV P t (ptrTo b 0) none none none S = some (.slice (some ⟨b, 0, none⟩) n n) := by
 unfold sliceV
 have hb3 : bounds3 n n none none none = some (0, n, n) := by
  unfold bounds3 sliceBnd
  rfl
 have hp : plainRow S b = true := by unfold plainRow; rw [hg]
 show (match P.underlying t with
  | some .string => _
  | some (.slice elem) => _
  | some (.array n elem) => _
  | _ => _) = _
 simp only [hu, hz, hb3, hp, cond_true, Nat.zero_mul, Nat.add_zero, Nat.sub_zero, ptrTo]
noncomputable def cd14 : Code := Tryz.f14.body.getD .skip
theorem spec14 (a : Option Addr) (cap : Nat) (V : List (List Ev)) (hF : Fresh S) (hG : Gl S) (hv : Vs S (.slice a V.length cap) V) : CC Tryz.prog KK 14 [.slice a V.length cap] S (fun v S' => Keep S S' ∧ (((fnE V).2 ≠ 0 ∧ v = tupV [.slice none 0 0, .int .i64 (fnE V).2]) ∨ ((fnE V).2 = 0 ∧ ∃ b c1 c2 c3, v = tupV [.slice (some ⟨b, 0, none⟩) 4 4, .int .i64 0] ∧ S.size ≤ b ∧ b < S'.size ∧ S'.get b = some (.cells (c4 ((fnE V).1.length : Int) c1 c2 c3) 59 false true [])))) := by
 refine cc_enter (c := cd14) (n := 35) Tryz.func14 rfl rfl rfl (by kernel_rfl) rfl rfl ?_
 have hl := Hold.start S
 refine zg ?_
 refine zc hl rfl (spec24 a cap V (hl.keep.3 hF) (hG.keep hl.keep) (hv.move (hl.since 0 rfl))) ?_; rintro v Sm hk1 ⟨w, rfl, hw⟩ hl; have hl := hl.mark; obtain ⟨aw, cw, rfl⟩ := LsOf.is hw
 refine zg ?_
 constructor <;> intro h15
 ·
  refine zg ?_
  exact (z2 rfl rfl ⟨hl.keep, .inl ⟨by simpa using h15, rfl⟩⟩)
 ·
  refine zg ?_; refine re_allocL hl rfl rfl rfl rfl rfl (z := c4 0 0 0 0) (by kernel_rfl) ?_; intro B6 S6 hl; refine zA ?_; refine xp_seq rfl ?_; refine zS ?_; refine xp_block rfl ?_
  -- LOOP
  have hlen := fnE_len (V := V)
  refine xe_sub (L' := [(19, .int .i64 0), (18, .int .i64 ((fnE V).1.length : Int)), (17, .slice aw (fnE V).1.length cw), (6, ptrTo B6 0), (3, .int .i64 0), (2, .slice none 0 0)]) ⟨rfl, rfl, rfl, rfl, rfl, rfl, trivial⟩ ?_
  refine xp_loop rfl (fun m Le S' => ∃ (i : Nat) (c1 c2 c3 : Int), i ≤ (fnE V).1.length ∧ m = (fnE V).1.length - i ∧ (0 ≤ c1 ∧ c1 ≤ i) ∧ (0 ≤ c2 ∧ c2 ≤ i) ∧ (0 ≤ c3 ∧ c3 ≤ i) ∧ SubE [(19, .int .i64 (i : Int)), (18, .int .i64 ((fnE V).1.length : Int)), (17, .slice aw (fnE V).1.length cw), (6, ptrTo B6 0), (3, .int .i64 0), (2, .slice none 0 0)] Le ∧ HoldG S [Sm, S] S' [(B6, .cells (c4 (i : Int) c1 c2 c3) 59 false true [])] []) ?_ (m := (fnE V).1.length) ⟨0, 0, 0, 0, Nat.zero_le _, rfl, ⟨Int.le_refl _, Int.le_refl _⟩, ⟨Int.le_refl _, Int.le_refl _⟩, ⟨Int.le_refl _, Int.le_refl _⟩, ⟨rfl, rfl, rfl, rfl, rfl, rfl, trivial⟩, hl⟩
  clear hl; rintro m Le S' ⟨i, c1, c2, c3, hi, rfl, hc1, hc2, hc3, hsub, hl⟩; refine xe_sub hsub ?_
  refine zg ?_
  constructor <;> intro h20
  ·
   have hlt : i < (fnE V).1.length := by have := of_decide_eq_true h20; omega
   obtain ⟨x, hx⟩ := nth_some hlt
   obtain ⟨b1, o1, cs1, ha, _, hrow, htk⟩ := hw.elem hx
   obtain ⟨hk1, hk3⟩ := fnE_k x (nth_mem hx)
   have hsb := s4_bd (k := x.k) hc1 hc2 hc3
   refine zg ?_; refine re_allocL hl rfl rfl rfl rfl rfl (z := [.int .i64 0, .int .i64 0, .int .i64 0, .int .i64 0, .int .i64 0]) (by kernel_rfl) ?_; intro B8 S8 hl; refine re_storeL hl 0 rfl rfl rfl rfl rfl rfl rfl (by kernel_rfl) rfl ?_; intro S1 hl; refine zA ?_; refine zS ?_; refine rr rfl (rd_indexAddr rfl rfl rfl (indexAddr_array (b := B6) (o := 0) (len := 4) (z := 1) Tryz.underlying59 (by kernel_rfl) ⟨by omega, by omega⟩)) ?_; refine rr rfl (rd_load rfl rfl (l1 (v := .int .i64 (i : Int)) (hl.get 1 rfl) rfl)) ?_; refine zA ?_
   refine rr rfl (rd_indexAddr rfl rfl rfl (indexAddr_array (b := B6) (o := 0) (len := 4) (z := 1) Tryz.underlying59 (by kernel_rfl) ⟨by omega, by omega⟩)) ?_; refine re_storeL hl 1 rfl rfl rfl rfl rfl rfl rfl (by kernel_rfl) (c' := c4 ((i : Int) + 1) c1 c2 c3) rfl ?_; intro S1 hl; refine zA ?_; refine zS ?_; refine rr rfl (rd_indexAddr rfl rfl rfl (indexAddr_array (b := B6) (o := 0) (len := 4) (z := 1) Tryz.underlying59 (by kernel_rfl) ⟨by omega, by omega⟩)) ?_; refine rr rfl (rd_load rfl rfl (l1 (hl.get 1 rfl) (nth4 hk1 hk3))) ?_; refine zA ?_
   refine rr rfl (rd_indexAddr rfl rfl rfl (indexAddr_array (b := B6) (o := 0) (len := 4) (z := 1) Tryz.underlying59 (by kernel_rfl) ⟨by omega, by omega⟩)) ?_; refine re_storeL hl 1 rfl rfl rfl rfl rfl rfl rfl (by kernel_rfl) (set4 hk1 hk3) ?_; intro S1 hl; refine zg ?_
   exact ⟨(fnE V).1.length - (i + 1), by omega, i + 1, _, _, _, by omega, rfl, u4_bd (by omega) hc1, u4_bd (by omega) hc2, u4_bd (by omega) hc3, ⟨rfl, rfl, rfl, rfl, rfl, rfl, trivial⟩, hl.tail⟩
  ·
   have hie : i = (fnE V).1.length := by have := of_decide_eq_false h20; omega
   refine zg ?_; refine rr rfl (rd_slice rfl rfl rfl rfl rfl (slice_arr (z := 1) Tryz.underlying59 (by kernel_rfl) (hl.get 0 rfl))) ?_; refine zg ?_
   refine y2 rfl rfl ⟨hl.keep, .inr ⟨by simpa using h15, B6, c1, c2, c3, rfl, (hl.at_ _ _ (List.mem_cons_self ..)).2.1, (hl.at_ _ _ (List.mem_cons_self ..)).2.2, by rw [← hie]; exact hl.get 0 rfl⟩⟩
end Go.Proofs.YtgiibikieblicaaGreatDoor
namespace Go.Proofs.YtgiibikieblicaaGreatDoor
open Go.Cm Go
set_option maxRecDepth 100000
variable {S : St}
structure DSet (S : St) (b : Nat) (aV aS : Option Addr) (cV cS : Nat) (kv : Value) (V : List (List Ev)) (L : List Sl) : Prop where
 lt : b < S.size
 get : S.get b = some (.cells [.slice aV V.length cV, .slice aS L.length cS, kv] 97 false true [])
 set : SetAt S aV aS cV cS V L
section
variable {S T : St} {b : Nat} {aV aS : Option Addr} {cV cS : Nat} {kv : Value} {V : List (List Ev)} {L : List Sl}
theorem DSet.at_ (h : DSet S b aV aS cV cS kv V L) (hk : Keep S T) : T.get b = some (.cells [.slice aV V.length cV, .slice aS L.length cS, kv] 97 false true []) := (hk.2 b h.lt).trans h.get
theorem DSet.keep (h : DSet S b aV aS cV cS kv V L) (hk : Keep S T) : DSet T b aV aS cV cS kv V L := ⟨Nat.lt_of_lt_of_le h.lt hk.1, h.at_ hk, h.set.move hk.rk⟩
end
def stB (V : List (List Ev)) (L : List Sl) (n v : Nat) : Bool := decide (evI L n v ≥ 0) && decide ((evAt V v (evI L n v)).at_ = atL L n)
def shB (x : Ev) : Bool := decide ((cmpE x.dur ⟨1, 1⟩).1 ≤ 0)
noncomputable def cd67 : Code := Tryz.f67.body.getD .skip
theorem spec67 (bd : Nat) (aV aS : Option Addr) (cV cS : Nat) (kv : Value) (V : List (List Ev)) (L : List Sl) (n vv : Nat) (hd : DSet S bd aV aS cV cS kv V L) (hvv : vv < V.length) (hnn : n < L.length) : CC Tryz.prog KK 67 [ptrTo bd 0, .int .i64 (n : Int), .int .i64 (vv : Int)] S (fun v S' => Keep S S' ∧ v = .bool (stB V L n vv)) := by
 refine cc_enter (c := cd67) (n := 43) Tryz.func67 rfl rfl rfl (by kernel_rfl) rfl rfl ?_
 have hl := Hold.start S
 obtain ⟨s, hsn⟩ := nth_some hnn
 obtain ⟨x, hx⟩ := nth_some hvv
 have hs := hd.set
 obtain ⟨b1, o1, cs1, aw, cw, ha, _, hrow, htk, hiv⟩ := hs.sl.elem hsn
 obtain ⟨hwl, hwi⟩ := hs.wf n s hsn
 obtain ⟨i, hi⟩ := nth_some (l := s.ev) (i := vv) (by omega)
 obtain ⟨b2, o2, cs2, ha2, _, hrow2, htk2⟩ := hiv.elem hi
 obtain ⟨b3, o3, cs3, ax, cx, ha3, _, hrow3, htk3, hvx⟩ := hs.vs.elem hx
 have hix := hwi vv i x hi hx
 have hei := evI_at hsn hi
 have hal := atL_at hsn
 iterate 2 refine zS ?_
 refine xe_sub (L' := [(7, .int .i64 i), (0, ptrTo bd 0), (1, .int .i64 (n : Int)), (2, .int .i64 (vv : Int))]) ⟨rfl, rfl, rfl, rfl, trivial⟩ ?_; refine xp_seq rfl (xe_toE hl 6 (.bool (stB V L n vv)) ?_ rfl ?_)
 ·
  refine xp_draw (idx := [0, 1, 2, 3, 4, 5, 6, 7, 8, 9, 10, 11, 12, 13, 14, 15, 16, 17, 18, 19, 20, 21, 22, 23, 24]) rfl (by kernel_rfl) (by kernel_rfl) ?_; refine zg ?_; refine rp_bool (d := 21) rfl (fun h21 => ?_) (fun h21 => ?_)
  ·
   have h0 : 0 ≤ i := of_decide_eq_true h21
   obtain ⟨y, hy⟩ := nth_some (l := x) (i := i.toNat) (by omega)
   obtain ⟨b4, o4, cs4, ha4, _, hrow4, htk4⟩ := hvx.elem hy
   have hey := evAt_at hx hy
   refine zg ?_
   exact ⟨rfl, bl (by unfold stB; rw [hei, h21, hey, hal]; rfl), sB, hl⟩
  ·
   refine zg ?_
   exact ⟨rfl, bl (by unfold stB; rw [hei, h21]; rfl), sB, hl⟩
 intro S1 hl
 refine zg ?_
 refine y1 rfl ⟨hl.keep, rfl⟩
end Go.Proofs.YtgiibikieblicaaGreatDoor
namespace Go.Proofs.YtgiibikieblicaaGreatDoor
open Go.Cm Go
set_option maxRecDepth 100000
variable {S : St}
def lenV (V : List (List Ev)) (v : Nat) : Int := (((nth V v).getD []).length : Int)
def spB (V : List (List Ev)) (v : Nat) (i : Int) : Bool := ((decide (i < 0) || decide (i + 1 ≥ lenV V v)) || (evAt V v i).rest) || (evAt V v (i + 1)).rest
def btS (V : List (List Ev)) (v : Nat) (i : Int) : Int := (btwE (evAt V v i).p (evAt V v (i + 1)).p).1.st
def spT (V : List (List Ev)) (v : Nat) (i : Int) : Bool := (btS V v i == 1) || (btS V v i == -1)
def stpE (V : List (List Ev)) (v : Nat) (i : Int) : Int := bif spB V v i then 0 else bif spT V v i then btS V v i else 0
theorem stp_1 {V : List (List Ev)} {v : Nat} {i : Int} (h : spB V v i = true) : stpE V v i = 0 := by unfold stpE; rw [h]; rfl
theorem stp_2 {V : List (List Ev)} {v : Nat} {i : Int} (h : spB V v i = false) (h2 : spT V v i = true) : stpE V v i = btS V v i := by unfold stpE; rw [h, h2]; rfl
theorem stp_3 {V : List (List Ev)} {v : Nat} {i : Int} (h : spB V v i = false) (h2 : spT V v i = false) : stpE V v i = 0 := by unfold stpE; rw [h, h2]; rfl
theorem lenV_at {V : List (List Ev)} {v : Nat} {x : List Ev} (h : nth V v = some x) : lenV V v = (x.length : Int) := by unfold lenV; rw [h]; rfl
theorem spB_ok {V : List (List Ev)} {v : Nat} {i : Int} {x : List Ev} (hx : nth V v = some x) (h : spB V v i = false) : 0 ≤ i ∧ i + 1 < (x.length : Int) := by
 unfold spB at h
 rw [lenV_at hx] at h
 simp at h
 omega
noncomputable def cd99 : Code := Tryz.f99.body.getD .skip
theorem spec99 (bd : Nat) (aV aS : Option Addr) (cV cS : Nat) (kv : Value) (V : List (List Ev)) (L : List Sl) (pn ph pk9 i : Int) (mv : Nat) (hd : DSet S bd aV aS cV cS kv V L) (hvv : mv < V.length) (h0 : 0 ≤ i) (hil : i < lenV V mv) : CC Tryz.prog KK 99 [ptrTo bd 0, aggL [.int .i64 pn, .int .i64 (mv : Int), .int .i64 ph, .int .i64 i, .int .i64 pk9]] S (fun v S' => Keep S S' ∧ v = .bool (shB (evAt V mv i))) := by
 refine cc_enter (c := cd99) (n := 27) Tryz.func99 rfl rfl rfl (by kernel_rfl) rfl rfl ?_
 have hl := Hold.start S
 obtain ⟨x, hx⟩ := nth_some hvv
 have hs := hd.set
 obtain ⟨b3, o3, cs3, ax, cx, ha3, _, hrow3, htk3, hvx⟩ := hs.vs.elem hx
 have hlx := lenV_at hx
 rw [hlx] at hil
 obtain ⟨y, hy⟩ := nth_some (l := x) (i := i.toNat) (by omega)
 obtain ⟨b4, o4, cs4, ha4, _, hrow4, htk4⟩ := hvx.elem hy
 have hey := evAt_at hx hy
 refine zg ?_; refine re_boxL hl rfl rfl rfl rfl rfl rfl ?_; intro B3 S3 hl; refine zg ?_; refine xp_draw (idx := [0, 1, 2, 3, 4, 5, 6, 7, 8, 9, 10, 11, 12, 13, 14, 15, 16, 17, 18, 19]) rfl (by kernel_rfl) (by kernel_rfl) ?_; refine pm rfl ?_; refine pr rfl (rd_nilCheck rfl rfl rfl) ?_; refine pr rfl (rd_fieldAddr rfl rfl (fa Tryz.underlying97 az97 rfl)) ?_; refine pk rfl (rd_load rfl rfl (l1 (hd.at_ hl.keep) rfl)) ?_; refine pr rfl (rd_fieldAddr rfl rfl (fa Tryz.underlying143 az143 rfl)) ?_; refine pk rfl (rd_load rfl rfl (l1 (hl.get 0 rfl) rfl)) ?_
 refine pr rfl (rd_indexAddr rfl rfl rfl (indexAddr_sl (z := 1) ha3 Tryz.underlying22 (by kernel_rfl) ⟨by omega, by omega⟩)) ?_; refine pk rfl (rd_load rfl rfl (l2 (row_move (hl.since 0 rfl) hrow3) htk3)) ?_; refine pr rfl (rd_fieldAddr rfl rfl (fa Tryz.underlying143 az143 rfl)) ?_; refine pk rfl (rd_load rfl rfl (l1 (hl.get 0 rfl) rfl)) ?_; refine pr rfl (rd_indexAddr rfl rfl rfl (indexAddr_sl (z := 10) ha4 Tryz.underlying27 (by kernel_rfl) ⟨by omega, by omega⟩)) ?_; refine pr rfl (rd_fieldAddr rfl rfl (fa Tryz.underlying54 az54 rfl)) ?_
 refine pk rfl (rd_load rfl rfl (lR (z := 2) (l := y.dur.cells) (row_move (hl.since 0 rfl) hrow4) (tk_part (j := 2) (l2 := y.dur.cells) htk4 rfl))) ?_; refine pr rfl (rd_build rfl rfl (v := aggL [.int .i64 1, .int .i64 1]) (by rfl)) ?_
 refine zp hl rfl (spec120 y.dur ⟨1, 1⟩) ?_; rintro v S1 hk1 rfl hl; refine ⟨stays_all (by kernel_rfl), ?_⟩
 iterate 5 refine pm rfl ?_
 refine rp_end rfl ?_; refine xs (by kernel_rfl) ?_; refine rm rfl ?_; refine rr rfl (rd_bin rfl rfl rfl rfl) ?_; refine rm rfl ?_; refine re_end rfl ?_; refine xp_ret rfl ?_
 refine done_ret (ress_tmp rfl rfl) ⟨hl.keep, by rw [hey] <;> rfl⟩
noncomputable def cd98 : Code := Tryz.f98.body.getD .skip
theorem spec98 (bd : Nat) (aV aS : Option Addr) (cV cS : Nat) (kv : Value) (V : List (List Ev)) (L : List Sl) (vv : Nat) (i : Int) (hF : Fresh S) (hG : Gl S) (hd : DSet S bd aV aS cV cS kv V L) (hvv : vv < V.length) (hi1 : -10 ≤ i) (hi2 : i ≤ 10000) : CC Tryz.prog KK 98 [ptrTo bd 0, .int .i64 (vv : Int), .int .i64 i] S (fun v S' => Keep S S' ∧ v = .int .i64 (stpE V vv i)) := by
 refine cc_enter (c := cd98) (n := 88) Tryz.func98 rfl rfl rfl (by kernel_rfl) rfl rfl ?_
 have hl := Hold.start S
 obtain ⟨x, hx⟩ := nth_some hvv
 have hs := hd.set
 obtain ⟨b3, o3, cs3, ax, cx, ha3, _, hrow3, htk3, hvx⟩ := hs.vs.elem hx
 have hlx := lenV_at hx
 have hxl := hs.hV x (nth_mem hx)
 refine zS ?_; refine xp_seq rfl ?_; refine xp_seq rfl (xe_toE hl 50 (.bool (spB V vv i)) ?_ rfl ?_)
 ·
  refine zg ?_; refine re_bool (d := 11) rfl (fun h11 => ?_) (fun h11 => ?_)
  ·
   refine zg ?_
   exact ⟨rfl, bl (by unfold spB; rw [h11]; rfl), sB, hl⟩
  ·
   refine zg ?_; refine re_bool (d := 24) rfl (fun h24 => ?_) (fun h24 => ?_)
   ·
    refine zg ?_
    exact ⟨rfl, bl (by unfold spB; rw [h11, hlx, h24]; rfl), sB, hl⟩
   ·
    have hi0 : 0 ≤ i := by have := of_decide_eq_false h11; omega
    have hi3 : i + 1 < (x.length : Int) := by have := of_decide_eq_false h24; omega
    obtain ⟨y, hy⟩ := nth_some (l := x) (i := i.toNat) (by omega)
    obtain ⟨b4, o4, cs4, ha4, _, hrow4, htk4⟩ := hvx.elem hy
    have hey := evAt_at hx hy
    refine zg ?_; refine re_bool (d := 37) rfl (fun h37 => ?_) (fun h37 => ?_)
    ·
     refine zg ?_
     exact ⟨rfl, bl (by unfold spB; rw [h11, hlx, h24, hey, h37]; rfl), sB, hl⟩
    ·
     obtain ⟨w, hw⟩ := nth_some (l := x) (i := (i + 1).toNat) (by omega)
     obtain ⟨b5, o5, cs5, ha5, _, hrow5, htk5⟩ := hvx.elem hw
     have hew := evAt_at hx hw
     refine zg ?_
     exact ⟨rfl, bl (by unfold spB; rw [h11, hlx, h24, hey, h37, hew]; rfl), sB, hl⟩
 intro S1 hl
 refine zg ?_
 constructor <;> intro h50
 ·
  refine zg ?_
  exact (z1 rfl ⟨hl.keep, by rw [stp_1 h50] <;> rfl⟩)
 ·
  obtain ⟨hi0, hi3⟩ := spB_ok hx h50
  obtain ⟨y, hy⟩ := nth_some (l := x) (i := i.toNat) (by omega)
  obtain ⟨b4, o4, cs4, ha4, _, hrow4, htk4⟩ := hvx.elem hy
  have hey := evAt_at hx hy
  obtain ⟨w, hw⟩ := nth_some (l := x) (i := (i + 1).toNat) (by omega)
  obtain ⟨b5, o5, cs5, ha5, _, hrow5, htk5⟩ := hvx.elem hw
  have hew := evAt_at hx hw
  refine zg ?_; refine xp_draw (idx := [0, 1, 2, 3, 4, 5, 6, 7, 8, 9, 10, 11, 12, 13, 14, 15, 16, 17, 18, 19, 20, 21, 22, 27, 23, 24, 25, 26, 28, 29]) rfl (by kernel_rfl) (by kernel_rfl) ?_; refine zg ?_; refine rp_allocL hF hl rfl rfl rfl rfl rfl (z := [.int .i64 0, .int .i64 0]) (by kernel_rfl) ?_; intro B7 S7 hl
  refine zp hl rfl (spec121 y.p w.p (hl.keep.3 hF) (hG.keep hl.keep)) ?_; rintro v S1 hk1 rfl hl; refine ⟨zt, ?_⟩
  refine zg ?_
  refine rp_storeL hl 0 rfl rfl rfl rfl rfl rfl rfl (by kernel_rfl) rfl ?_; intro S1 hl; refine ⟨stays_all (by kernel_rfl), ?_⟩
  refine zA ?_; refine xp_seq rfl ?_; refine xp_seq rfl (xe_toE hl 85 (.bool (spT V vv i)) ?_ rfl ?_)
  ·
   refine zg ?_; refine re_bool (d := 81) rfl (fun h81 => ?_) (fun h81 => ?_)
   ·
    refine zg ?_
    exact ⟨rfl, bl (by unfold spT btS; rw [hey, hew, h81]; rfl), sB, hl⟩
   ·
    refine zg ?_
    exact ⟨rfl, bl (by unfold spT btS; rw [hey, hew, h81]; rfl), sB, hl⟩
  intro S1 hl
  refine zg ?_
  constructor <;> intro h85
  ·
   refine zg ?_
   exact (z1 rfl ⟨hl.keep, by rw [stp_2 h50 h85]; unfold btS; rw [hey, hew] <;> rfl⟩)
  ·
   refine zg ?_
   refine y1 rfl ⟨hl.keep, by rw [stp_3 h50 h85] <;> rfl⟩
end Go.Proofs.YtgiibikieblicaaGreatDoor
namespace Go.Proofs.YtgiibikieblicaaGreatDoor
open Go.Cm Go
set_option maxRecDepth 100000
variable {S : St}
def chB (V : List (List Ev)) (L : List Sl) (n v : Nat) : Bool := decide (evI L n v ≥ 0) && !(evAt V v (evI L n v)).rest
def chI (V : List (List Ev)) (L : List Sl) (n : Nat) : Nat → Nat → List (Int × Pt)
 | 0, _ => []
 | f + 1, v => (bif chB V L n v then [((v : Int), (evAt V v (evI L n v)).p)] else []) ++ chI V L n f (v + 1)
def chE (V : List (List Ev)) (L : List Sl) (n : Nat) : List (Int × Pt) := chI V L n V.length 0
theorem ch_1 {V : List (List Ev)} {L : List Sl} {n f v : Nat} (h : chB V L n v = true) : chI V L n (f + 1) v = ((v : Int), (evAt V v (evI L n v)).p) :: chI V L n f (v + 1) := by rw [chI, h]; rfl
theorem ch_2 {V : List (List Ev)} {L : List Sl} {n f v : Nat} (h : chB V L n v = false) : chI V L n (f + 1) v = chI V L n f (v + 1) := by rw [chI, h]; rfl
abbrev ic (i : Int) : List Value := [Value.int .i64 i]
noncomputable def cd45 : Code := Tryz.f45.body.getD .skip
theorem spec45 (bd : Nat) (aV aS : Option Addr) (cV cS : Nat) (kv : Value) (V : List (List Ev)) (L : List Sl) (n : Nat) (hd : DSet S bd aV aS cV cS kv V L) (hnn : n < L.length) : CC Tryz.prog KK 45 [ptrTo bd 0, .int .i64 (n : Int)] S (fun v S' => Keep S S' ∧ ∃ w1 w2, v = tupV [w1, w2] ∧ Ints S' w1 ((chE V L n).map (·.1)) ∧ Pts S' w2 ((chE V L n).map (·.2))) := by
 refine cc_enter (c := cd45) (n := 61) Tryz.func45 rfl rfl rfl (by kernel_rfl) rfl rfl ?_
 have hl := Hold.start S
 obtain ⟨s, hsn⟩ := nth_some hnn
 have hs := hd.set
 obtain ⟨b1, o1, cs1, aw, cw, ha, _, hrow, htk, hiv⟩ := hs.sl.elem hsn
 obtain ⟨hwl, hwi⟩ := hs.wf n s hsn
 have hVn := hs.hn
 iterate 3 refine zS ?_
 refine xp_seq rfl ?_; refine zS ?_; refine xp_block rfl ?_
 -- LOOP
 have hl := hl.addG (g := gOf 3 1 ic (.slice none 0 0) []) (.inl ⟨rfl, rfl, rfl⟩)
 have hl := hl.addG (g := gOf 52 3 Pt.cells (.slice none 0 0) []) (.inl ⟨rfl, rfl, rfl⟩)
 refine xe_sub (L' := [(19, .int .i64 0), (18, .int .i64 (s.ev.length : Int)), (17, .slice aw s.ev.length cw), (7, .slice none (([] : List Pt)).length (([] : List Pt)).length), (6, .slice none (([] : List Int)).length (([] : List Int)).length), (5, .slice none 0 0), (4, .slice none 0 0), (0, ptrTo bd 0)]) ⟨rfl, rfl, rfl, rfl, rfl, rfl, rfl, rfl, trivial⟩ ?_
 refine xp_loop rfl (fun m Le S' => ∃ (j : Nat) (W : List Int) (P : List Pt) (a1 a2 : Option Addr), j ≤ V.length ∧ m = V.length - j ∧ W.length ≤ j ∧ P.length ≤ j ∧ W ++ (chI V L n (V.length - j) j).map (·.1) = (chE V L n).map (·.1) ∧ P ++ (chI V L n (V.length - j) j).map (·.2) = (chE V L n).map (·.2) ∧ SubE [(19, .int .i64 (j : Int)), (18, .int .i64 (s.ev.length : Int)), (17, .slice aw s.ev.length cw), (7, .slice a2 (P).length (P).length), (6, .slice a1 (W).length (W).length), (5, .slice none 0 0), (4, .slice none 0 0), (0, ptrTo bd 0)] Le ∧ HoldG S [S] S' [] [gOf 52 3 Pt.cells (.slice a2 (P).length (P).length) (P), gOf 3 1 ic (.slice a1 (W).length (W).length) (W)]) ?_ (m := V.length) ⟨0, [], [], none, none, Nat.zero_le _, rfl, Nat.le_refl _, Nat.le_refl _, rfl, rfl, ⟨rfl, rfl, rfl, rfl, rfl, rfl, rfl, rfl, trivial⟩, hl⟩
 clear hl; rintro m Le S' ⟨j, W, P, a1, a2, hj, rfl, hW, hP, hp1, hp2, hsub, hl⟩; refine xe_sub hsub ?_
 refine zg ?_
 constructor <;> intro h20
 ·
  have hlt : j < V.length := by have := of_decide_eq_true h20; omega
  obtain ⟨x, hx⟩ := nth_some hlt
  obtain ⟨i, hi⟩ := nth_some (l := s.ev) (i := j) (by omega)
  obtain ⟨b2, o2, cs2, ha2, _, hrow2, htk2⟩ := hiv.elem hi
  obtain ⟨b3, o3, cs3, ax, cx, ha3, _, hrow3, htk3, hvx⟩ := hs.vs.elem hx
  have hix := hwi j i x hi hx
  have hei := evI_at hsn hi
  rw [show V.length - j = (V.length - (j + 1)) + 1 by omega] at hp1 hp2
  refine xp_skip rfl ?_; refine xp_seq rfl ?_; refine xp_block rfl ?_; refine zS ?_; refine xp_seq rfl (xe_toE hl 39 (.bool (chB V L n j)) ?_ rfl ?_)
  ·
   refine zg ?_; refine re_bool (d := 26) rfl (fun h26 => ?_) (fun h26 => ?_)
   ·
    have h0 : 0 ≤ i := of_decide_eq_true h26
    obtain ⟨y, hy⟩ := nth_some (l := x) (i := i.toNat) (by omega)
    obtain ⟨b4, o4, cs4, ha4, _, hrow4, htk4⟩ := hvx.elem hy
    have hey := evAt_at hx hy
    refine zg ?_; refine rr rfl (rd_un rfl rfl rfl) ?_; refine zg ?_
    exact ⟨rfl, bl (by unfold chB; rw [hei, h26, hey]; rfl), sB, hl⟩
   ·
    refine zg ?_
    exact ⟨rfl, bl (by unfold chB; rw [hei, h26]; rfl), sB, hl⟩
  intro S1 hl
  refine zg ?_
  constructor <;> intro h39
  ·
   have h0 : 0 ≤ i := by
    cases hd0 : decide (i ≥ 0) with
    | true => exact of_decide_eq_true hd0
    | false => unfold chB at h39; rw [hei, hd0] at h39; cases h39
   obtain ⟨y, hy⟩ := nth_some (l := x) (i := i.toNat) (by omega)
   obtain ⟨b4, o4, cs4, ha4, _, hrow4, htk4⟩ := hvx.elem hy
   have hey := evAt_at hx hy
   rw [ch_1 h39, hei, hey] at hp1 hp2
   refine zg ?_; refine re_buildSliceR hl rfl rfl rfl rfl rfl Tryz.underlying39 rfl (c := ic (j : Int)) (by kernel_rfl) ?_; intro B42 S1 hr42 hl; refine re_appendG hl 1 rfl rfl (show ([52, 3] : List TypeId).Nodup by decide) rfl rfl rfl rfl rfl rfl rfl Tryz.underlying39 Tryz.underlying39 rfl rfl (by kernel_rfl) (src_row (new := ic (j : Int)) hr42 rfl) rfl rfl (by kernel_rfl) (by show W.length + 1 ≤ maxNeed; unfold maxNeed; omega) ?_; intro v43 S1 hl
   obtain ⟨av3, rfl⟩ : ∃ av3, v43 = .slice av3 (W.length + 1) (W.length + 1) := Grow.is (hl.gr _ (List.mem_cons_of_mem _ (List.mem_cons_self ..)))
   refine zg ?_; refine re_buildSliceR hl rfl rfl rfl rfl rfl Tryz.underlying98 rfl (c := y.p.cells) (by kernel_rfl) ?_; intro B56 S1 hr56 hl; refine re_appendG hl 0 rfl rfl (show ([52, 3] : List TypeId).Nodup by decide) rfl rfl rfl rfl rfl rfl rfl Tryz.underlying98 Tryz.underlying98 rfl rfl (by kernel_rfl) (src_row (new := y.p.cells) hr56 rfl) rfl rfl (by kernel_rfl) (by show P.length + 1 ≤ maxNeed; unfold maxNeed; omega) ?_; intro v57 S1 hl
   obtain ⟨av4, rfl⟩ : ∃ av4, v57 = .slice av4 (P.length + 1) (P.length + 1) := Grow.is (hl.gr _ (List.mem_cons_self ..))
   refine zg ?_
   refine ⟨V.length - (j + 1), by omega, j + 1, W ++ [(j : Int)], P ++ [y.p], av3, av4, by omega, rfl, by rw [List.length_append]; exact Nat.succ_le_succ hW, by rw [List.length_append]; exact Nat.succ_le_succ hP, by rw [List.append_assoc]; exact hp1, by rw [List.append_assoc]; exact hp2, ⟨rfl, rfl, rfl, congrArg some (congrArg (fun n => Value.slice av4 n n) (by rw [List.length_append]; rfl)), congrArg some (congrArg (fun n => Value.slice av3 n n) (by rw [List.length_append]; rfl)), rfl, rfl, rfl, trivial⟩, ?_⟩
   rw [gOf_push, gOf_push]
   exact hl
  ·
   refine zg ?_
   rw [ch_2 h39] at hp1 hp2
   exact ⟨V.length - (j + 1), by omega, j + 1, W, P, a1, a2, by omega, rfl, by omega, by omega, hp1, hp2, ⟨rfl, rfl, rfl, rfl, rfl, rfl, rfl, rfl, trivial⟩, hl⟩
 ·
  have hz : V.length - j = 0 := by have := of_decide_eq_false h20; omega
  rw [hz] at hp1 hp2
  have hp1 : W = (chE V L n).map (·.1) := (List.append_nil W).symm.trans hp1
  have hp2 : P = (chE V L n).map (·.2) := (List.append_nil P).symm.trans hp2
  rw [← hp1, ← hp2]
  refine zg ?_
  refine y2 rfl rfl ⟨hl.keep, ⟨_, _, rfl, Grow.ls (f := ic) (fun _ => rfl) (hl.gr _ (List.mem_cons_of_mem _ (List.mem_cons_self ..))), Grow.ls (f := Pt.cells) (fun _ => rfl) (hl.gr _ (List.mem_cons_self ..))⟩⟩
end Go.Proofs.YtgiibikieblicaaGreatDoor
namespace Go.Proofs.YtgiibikieblicaaGreatDoor
open Go.Cm Go
set_option maxRecDepth 100000
variable {S : St}
def paB (V : List (List Ev)) (mv : Nat) (i : Int) : Bool := (shB (evAt V mv i) && (stpE V mv (i - 1) != 0)) && (stpE V mv i == stpE V mv (i - 1))
noncomputable def cd68 : Code := Tryz.f68.body.getD .skip
theorem spec68 (bd : Nat) (aV aS : Option Addr) (cV cS : Nat) (kv : Value) (V : List (List Ev)) (L : List Sl) (pn ph pk9 i : Int) (mv : Nat) (hF : Fresh S) (hG : Gl S) (hd : DSet S bd aV aS cV cS kv V L) (hvv : mv < V.length) (h0 : 0 ≤ i) (hil : i < lenV V mv) : CC Tryz.prog KK 68 [ptrTo bd 0, aggL [.int .i64 pn, .int .i64 (mv : Int), .int .i64 ph, .int .i64 i, .int .i64 pk9]] S (fun v S' => Keep S S' ∧ v = .bool (paB V mv i)) := by
 refine cc_enter (c := cd68) (n := 30) Tryz.func68 rfl rfl rfl (by kernel_rfl) rfl rfl ?_
 have hl := Hold.start S
 obtain ⟨x, hx⟩ := nth_some hvv
 have hxl := hd.set.hV x (nth_mem hx)
 have hlx := lenV_at hx
 have hi2 : i ≤ 2000 := by omega
 refine zg ?_; refine re_boxL hl rfl rfl rfl rfl rfl rfl ?_; intro B3 S3 hl; refine zg ?_
 refine zc hl rfl (spec98 bd aV aS cV cS kv V L mv (i - 1) (hl.keep.3 hF) (hG.keep hl.keep) (hd.keep hl.keep) hvv (by omega) (by omega)) ?_; rintro v S1 hk1 rfl hl
 refine zA ?_; refine xe_sub (L' := [(5, .int .i64 (stpE V mv (i - 1))), (3, ptrTo B3 0), (0, ptrTo bd 0)]) ⟨rfl, rfl, rfl, trivial⟩ ?_; refine xp_seq rfl (xe_toE hl 4 (.bool (paB V mv i)) ?_ rfl ?_)
 ·
  refine zg ?_
  refine zc hl rfl (spec99 bd aV aS cV cS kv V L pn ph pk9 i mv (hd.keep hl.keep) hvv h0 hil) ?_; rintro v S1 hk1 rfl hl
  refine zg ?_; refine re_bool (d := 16) rfl (fun h16 => ?_) (fun h16 => ?_)
  ·
   refine zg ?_; refine re_bool (d := 20) rfl (fun h20 => ?_) (fun h20 => ?_)
   ·
    refine zg ?_
    refine zc hl rfl (spec98 bd aV aS cV cS kv V L mv (i) (hl.keep.3 hF) (hG.keep hl.keep) (hd.keep hl.keep) hvv (by omega) (by omega)) ?_; rintro v S1 hk1 rfl hl
    refine zg ?_
    exact ⟨rfl, bl (by unfold paB; rw [h16, h20]; rfl), sB, hl⟩
   ·
    refine zg ?_
    exact ⟨rfl, bl (by unfold paB; rw [h16, h20]; rfl), sB, hl⟩
  ·
   refine zg ?_
   exact ⟨rfl, bl (by unfold paB; rw [h16]; rfl), sB, hl⟩
 intro S1 hl
 refine zg ?_
 refine y1 rfl ⟨hl.keep, rfl⟩
end Go.Proofs.YtgiibikieblicaaGreatDoor
namespace Go.Proofs.YtgiibikieblicaaGreatDoor
open Go.Cm Go
set_option maxRecDepth 100000
variable {S : St}
theorem stp_pos {V : List (List Ev)} {v : Nat} {i : Int} (h : (stpE V v i != 0) = true) : 0 ≤ i := by
 cases hb : decide (i < 0) with
 | false => have := of_decide_eq_false hb; omega
 | true =>
  have : spB V v i = true := by unfold spB; rw [hb]; rfl
  rw [stp_1 this] at h
  cases h
def tuB (V : List (List Ev)) (mv : Nat) (i : Int) : Bool := (((shB (evAt V mv i) && (stpE V mv (i - 1) != 0)) && decide (i + 1 < lenV V mv)) && !(evAt V mv (i + 1)).rest) && decide ((evAt V mv (i + 1)).p = (evAt V mv (i - 1)).p)
noncomputable def cd69 : Code := Tryz.f69.body.getD .skip
theorem spec69 (bd : Nat) (aV aS : Option Addr) (cV cS : Nat) (kv : Value) (V : List (List Ev)) (L : List Sl) (pn ph pk9 i : Int) (mv : Nat) (hF : Fresh S) (hG : Gl S) (hd : DSet S bd aV aS cV cS kv V L) (hvv : mv < V.length) (h0 : 0 ≤ i) (hil : i < lenV V mv) : CC Tryz.prog KK 69 [ptrTo bd 0, aggL [.int .i64 pn, .int .i64 (mv : Int), .int .i64 ph, .int .i64 i, .int .i64 pk9]] S (fun v S' => Keep S S' ∧ v = .bool (tuB V mv i)) := by
 refine cc_enter (c := cd69) (n := 62) Tryz.func69 rfl rfl rfl (by kernel_rfl) rfl rfl ?_
 have hl := Hold.start S
 obtain ⟨x, hx⟩ := nth_some hvv
 have hs := hd.set
 obtain ⟨b3, o3, cs3, ax, cx, ha3, _, hrow3, htk3, hvx⟩ := hs.vs.elem hx
 have hxl := hd.set.hV x (nth_mem hx)
 have hlx := lenV_at hx
 have hi2 : i ≤ 2000 := by omega
 refine xs (by kernel_rfl) ?_; refine re_boxL hl rfl rfl rfl rfl rfl rfl ?_; intro B3 S3 hl; refine rm rfl ?_; refine re_end rfl ?_; refine xp_seq rfl ?_; refine xp_draw (idx := [0, 1, 2, 3, 4, 5, 6, 7, 8]) rfl (by kernel_rfl) (by kernel_rfl) ?_; refine pm rfl ?_; refine pr rfl (rd_nilCheck rfl rfl rfl) ?_; refine pr rfl (rd_fieldAddr rfl rfl (fa Tryz.underlying97 az97 rfl)) ?_; refine pk rfl (rd_load rfl rfl (l1 (hd.at_ hl.keep) rfl)) ?_; refine pr rfl (rd_fieldAddr rfl rfl (fa Tryz.underlying143 az143 rfl)) ?_; refine pk rfl (rd_load rfl rfl (l1 (hl.get 0 rfl) rfl)) ?_
 refine pr rfl (rd_indexAddr rfl rfl rfl (indexAddr_sl (z := 1) ha3 Tryz.underlying22 (by kernel_rfl) ⟨by omega, by omega⟩)) ?_; refine pk rfl (rd_load rfl rfl (l2 (row_move (hl.since 0 rfl) hrow3) htk3)) ?_; refine pm rfl ?_; refine rp_end rfl ?_; refine xe_sub (L' := [(5, .slice ax x.length cx), (3, ptrTo B3 0), (0, ptrTo bd 0)]) ⟨rfl, rfl, rfl, trivial⟩ ?_; refine xp_seq rfl (xe_toE hl 4 (.bool (tuB V mv i)) ?_ rfl ?_)
 ·
  refine xp_draw (idx := [0, 1, 2, 3, 4, 5, 6, 7, 8, 9, 10, 11, 12, 13, 14, 15, 16, 17, 18, 19, 20, 21, 22, 23, 24, 25, 26, 27, 28, 29, 30, 31, 32, 33, 34, 35, 36, 37, 38, 39, 40, 41, 42, 43, 44, 45, 46, 47, 48]) rfl (by kernel_rfl) (by kernel_rfl) ?_; refine pm rfl ?_; refine pk rfl (rd_load rfl rfl (lN (z := 5) (hl.get 0 rfl) rfl)) ?_
  refine rp_callL hl rfl rfl rfl rfl rfl rfl rfl (spec99 bd aV aS cV cS kv V L pn ph pk9 i mv (hd.keep hl.keep) hvv h0 hil) ?_; rintro v S1 hk1 rfl hl; refine ⟨stays_all (by kernel_rfl), ?_⟩
  refine pm rfl ?_; refine rp_bool (d := 17) rfl (fun h17 => ?_) (fun h17 => ?_)
  ·
   refine pm rfl ?_; refine pr rfl (rd_fieldAddr rfl rfl (fa Tryz.underlying143 az143 rfl)) ?_; refine pk rfl (rd_load rfl rfl (l1 (hl.get 0 rfl) rfl)) ?_; refine pr rfl (rd_fieldAddr rfl rfl (fa Tryz.underlying143 az143 rfl)) ?_; refine pk rfl (rd_load rfl rfl (l1 (hl.get 0 rfl) rfl)) ?_; refine pr rfl (rd_bin rfl rfl rfl (i6 (by omega))) ?_
   refine rp_callL hl rfl rfl rfl rfl rfl rfl rfl (spec98 bd aV aS cV cS kv V L mv (i - 1) (hl.keep.3 hF) (hG.keep hl.keep) (hd.keep hl.keep) hvv (by omega) (by omega)) ?_; rintro v S1 hk1 rfl hl; refine ⟨stays_all (by kernel_rfl), ?_⟩
   refine pr rfl (rd_bin rfl rfl rfl rfl) ?_; iterate 2 refine pm rfl ?_
   refine rp_bool (d := 27) rfl (fun h27 => ?_) (fun h27 => ?_)
   ·
    have hp1 := stp_pos h27
    refine pr rfl (rd_fieldAddr rfl rfl (fa Tryz.underlying143 az143 rfl)) ?_; refine pk rfl (rd_load rfl rfl (l1 (hl.get 0 rfl) rfl)) ?_; refine pr rfl (rd_bin rfl rfl rfl (i6 (by omega))) ?_; refine pm rfl ?_; refine pk rfl (rd_len rfl rfl (len_slice Tryz.underlying27)) ?_; refine pr rfl (rd_bin rfl rfl rfl rfl) ?_; iterate 2 refine pm rfl ?_
    refine rp_bool (d := 35) rfl (fun h35 => ?_) (fun h35 => ?_)
    ·
     have hp2 : i + 1 < (x.length : Int) := of_decide_eq_true h35
     obtain ⟨w, hw⟩ := nth_some (l := x) (i := (i + 1).toNat) (by omega)
     obtain ⟨b5, o5, cs5, ha5, _, hrow5, htk5⟩ := hvx.elem hw
     have hew := evAt_at hx hw
     obtain ⟨y, hy⟩ := nth_some (l := x) (i := (i - 1).toNat) (by omega)
     obtain ⟨b4, o4, cs4, ha4, _, hrow4, htk4⟩ := hvx.elem hy
     have hey := evAt_at hx hy
     refine pm rfl ?_; refine pr rfl (rd_fieldAddr rfl rfl (fa Tryz.underlying143 az143 rfl)) ?_; refine pk rfl (rd_load rfl rfl (l1 (hl.get 0 rfl) rfl)) ?_; refine pr rfl (rd_bin rfl rfl rfl (i6 (by omega))) ?_; refine pr rfl (rd_indexAddr rfl rfl rfl (indexAddr_sl (z := 10) ha5 Tryz.underlying27 (by kernel_rfl) ⟨by omega, by omega⟩)) ?_; refine pr rfl (rd_fieldAddr rfl rfl (fa Tryz.underlying54 az54 rfl)) ?_; refine pk rfl (rd_load rfl rfl (l2 (row_move (hl.since 0 rfl) hrow5) (tk_nth (j := 7) htk5 rfl))) ?_; refine pr rfl (rd_un rfl rfl rfl) ?_; iterate 2 refine pm rfl ?_
     refine rp_bool (d := 45) rfl (fun h45 => ?_) (fun h45 => ?_)
     ·
      refine pm rfl ?_; refine pr rfl (rd_fieldAddr rfl rfl (fa Tryz.underlying143 az143 rfl)) ?_; refine pk rfl (rd_load rfl rfl (l1 (hl.get 0 rfl) rfl)) ?_; refine pr rfl (rd_bin rfl rfl rfl (i6 (by omega))) ?_; refine pr rfl (rd_indexAddr rfl rfl rfl (indexAddr_sl (z := 10) ha5 Tryz.underlying27 (by kernel_rfl) ⟨by omega, by omega⟩)) ?_; refine pr rfl (rd_fieldAddr rfl rfl (fa Tryz.underlying54 az54 rfl)) ?_; refine pk rfl (rd_load rfl rfl (lR (z := 3) (l := w.p.cells) (row_move (hl.since 0 rfl) hrow5) (tk_part (j := 4) (l2 := w.p.cells) htk5 rfl))) ?_; refine pm rfl ?_
      refine pr rfl (rd_fieldAddr rfl rfl (fa Tryz.underlying143 az143 rfl)) ?_; refine pk rfl (rd_load rfl rfl (l1 (hl.get 0 rfl) rfl)) ?_; refine pr rfl (rd_bin rfl rfl rfl (i6 (by omega))) ?_; refine pr rfl (rd_indexAddr rfl rfl rfl (indexAddr_sl (z := 10) ha4 Tryz.underlying27 (by kernel_rfl) ⟨by omega, by omega⟩)) ?_; refine pr rfl (rd_fieldAddr rfl rfl (fa Tryz.underlying54 az54 rfl)) ?_; refine pk rfl (rd_load rfl rfl (lR (z := 3) (l := y.p.cells) (row_move (hl.since 0 rfl) hrow4) (tk_part (j := 4) (l2 := y.p.cells) htk4 rfl))) ?_; refine pr rfl (rd_bin rfl rfl rfl (isPitch _ _ w.p y.p)) ?_
      iterate 2 refine pm rfl ?_
      refine rp_end rfl ?_
      exact ⟨rfl, bl (by unfold tuB; rw [h17, h27, hlx, h35, hew, h45, hey]; rfl), sB, hl⟩
     ·
      iterate 15 refine pz rfl ?_
      iterate 2 refine pm rfl ?_
      refine rp_end rfl ?_
      exact ⟨rfl, bl (by unfold tuB; rw [h17, h27, hlx, h35, hew, h45, hey]; rfl), sB, hl⟩
    ·
     iterate 8 refine pz rfl ?_
     iterate 2 refine pm rfl ?_
     iterate 15 refine pz rfl ?_
     iterate 2 refine pm rfl ?_
     refine rp_end rfl ?_
     exact ⟨rfl, bl (by unfold tuB; rw [h17, h27, hlx, h35]; rfl), sB, hl⟩
   ·
    iterate 6 refine pz rfl ?_
    iterate 2 refine pm rfl ?_
    iterate 8 refine pz rfl ?_
    iterate 2 refine pm rfl ?_
    iterate 15 refine pz rfl ?_
    iterate 2 refine pm rfl ?_
    refine rp_end rfl ?_
    exact ⟨rfl, bl (by unfold tuB; rw [h17, h27]; rfl), sB, hl⟩
  ·
   iterate 8 refine pz rfl ?_
   iterate 2 refine pm rfl ?_
   iterate 6 refine pz rfl ?_
   iterate 2 refine pm rfl ?_
   iterate 8 refine pz rfl ?_
   iterate 2 refine pm rfl ?_
   iterate 15 refine pz rfl ?_
   iterate 2 refine pm rfl ?_
   refine rp_end rfl ?_
   exact ⟨rfl, bl (by unfold tuB; rw [h17]; rfl), sB, hl⟩
 intro S1 hl
 refine xp_ret rfl ?_
 refine done_ret (ress_tmp rfl rfl) ⟨hl.keep, rfl⟩
end Go.Proofs.YtgiibikieblicaaGreatDoor
namespace Go.Proofs.YtgiibikieblicaaGreatDoor
open Go.Cm Go
set_option maxRecDepth 100000
variable {S : St}
def TLe (aw : Option Addr) (D : List Ev) (tl : List (Nat × Blk)) : Prop := (D = [] ∧ aw = none ∧ tl = []) ∨
 ∃ b ks tl2, aw = some ⟨b, 0, none⟩ ∧ tl = (b, .cells ((D.map Ev.cells).flatten) 54 true true ks) :: tl2 ∧ (0 < D.length → tl2 = deadL 54 ks)
theorem TLe.pos {aw : Option Addr} {D : List Ev} {tl : List (Nat × Blk)} (h : TLe aw D tl) (hne : 0 < D.length) : ∃ b ks, aw = some ⟨b, 0, none⟩ ∧ tl = (b, .cells ((D.map Ev.cells).flatten) 54 true true ks) :: deadL 54 ks := by
 rcases h with ⟨h, _⟩ | ⟨b, ks, tl2, h1, h2, h3⟩
 ·rw [h] at hne; simp at hne
 ·exact ⟨b, ks, h1, by rw [h2, h3 hne]⟩
theorem TLe.put {b : Nat} {D : List Ev} : TLe (some ⟨b, 0, none⟩) D ([(b, .cells ((D.map Ev.cells).flatten) 54 true true [])] : List (Nat × Blk)) := .inr ⟨b, [], [], rfl, rfl, fun _ => rfl⟩
theorem TLe.evs {S0 S : St} {Ts : List St} {r tl : List (Nat × Blk)} {gs : List Gr} {aw : Option Addr} {D : List Ev} (h : TLe aw D tl) (hl : HoldG S0 Ts S (r ++ tl) gs) : Evs S (.slice aw D.length D.length) D := by
 rcases h with ⟨rfl, rfl, _⟩ | ⟨b, ks, tl2, rfl, rfl, _⟩
 ·exact LsOf.nil
 ·have := hl.at_ b _ (List.mem_append.2 (.inr (List.mem_cons_self ..)))
  exact LsOf.row (fun _ => rfl) ⟨this.2.2, true, ks, this.1⟩ rfl
theorem TLe.of {aw : Option Addr} {C : List Ev} {tl : List (Nat × Blk)} (h : RowT 54 aw C.length ((C.map Ev.cells).flatten) tl) : TLe aw C tl := by
 rcases h with ⟨B0, h1, h2, rfl, rfl⟩ | ⟨B, B0, h1, rfl, rfl⟩
 ·obtain rfl := List.eq_nil_of_length_eq_zero h1
  exact .inr ⟨B0, [], [], rfl, rfl, fun _ => rfl⟩
 ·exact .inr ⟨B, [B0], _, rfl, rfl, fun _ => rfl⟩
theorem Evs.cells {S : St} {a : Option Addr} {cap : Nat} {C : List Ev} (h : Evs S (.slice a C.length cap) C) : sourceCells S 10 C.length (.slice a C.length cap) = some ((C.map Ev.cells).flatten) := SliceAt.cells h
theorem setN_skip {a : Value} {z : List Value} {c : List Value} : ∀ (p : List Value) {k : Nat} {r : List Value}, setN k (a :: z) c = some r → setN (p.length + k) (a :: z) (p ++ c) = some (p ++ r)
 | [], k, r, h => by simpa using h
 | x :: p, k, r, h => by
  rw [show (x :: p).length + k = (p.length + k) + 1 by simp only [List.length_cons]; omega]
  have e := setN_skip p h
  simp only [List.cons_append, setN, e]
theorem setN_app0 : ∀ (z p g r : List Value), setN 0 z p = some g → setN 0 z (p ++ r) = some (g ++ r)
 | [], p, g, r, h => by
  have e : g = p := by cases p <;> (simp [setN] at h; first | exact h | exact h.symm)
  subst e
  cases hq : g ++ r <;> simp [setN]
 | a :: z, [], g, r, h => by simp [setN] at h
 | a :: z, x :: p, g, r, h => by
  simp only [setN] at h
  split at h
  ·rename_i e1
   have e := setN_app0 z p _ r e1
   cases h
   simp only [List.cons_append, setN, e]
  ·cases h
theorem setN_app {a : Value} {z : List Value} : ∀ (k : Nat) (p g r : List Value), setN k (a :: z) p = some g → setN k (a :: z) (p ++ r) = some (g ++ r)
 | 0, p, g, r, h => setN_app0 (a :: z) p g r h
 | k + 1, [], g, r, h => by simp [setN] at h
 | k + 1, x :: p, g, r, h => by
  simp only [setN] at h
  split at h
  ·rename_i e1
   have e := setN_app k p _ r e1
   cases h
   simp only [List.cons_append, setN, e]
  ·cases h
theorem setN_row {α : Type} {f : α → List Value} {z j : Nat} {a : Value} {w : List Value} (hz : ∀ x, (f x).length = z) {y : α} : ∀ (D : List α) (i : Nat) (x : α), nth D i = some x → setN j (a :: w) (f x) = some (f y) → setN (0 + i * z + j) (a :: w) ((D.map f).flatten) = some (((D.set i y).map f).flatten)
 | [], i, x, h, _ => by cases i <;> cases h
 | q :: D, 0, x, h, hs => by
  cases h
  rw [show 0 + 0 * z + j = j by omega]
  simpa only [List.map_cons, List.flatten_cons, List.set_cons_zero] using setN_app j (f q) (f y) ((D.map f).flatten) hs
 | q :: D, i + 1, x, h, hs => by
  have e := setN_skip (f q) (setN_row hz (y := y) D i x h hs)
  rw [hz q] at e
  rw [show 0 + (i + 1) * z + j = z + (0 + i * z + j) by rw [Nat.add_mul]; omega]
  exact e
theorem setN_rowI {α : Type} {f : α → List Value} {z j off : Nat} {k : Int} {a : Value} {w : List Value} (hz : ∀ x, (f x).length = z) {x y : α} {D : List α} {i : Nat} (hk : k = (i : Int)) (hx : nth D i = some x) (ho : off = 0 + k.toNat * z + j) (hs : setN j (a :: w) (f x) = some (f y)) : setN off (a :: w) ((D.map f).flatten) = some (((D.set i y).map f).flatten) := by
 subst hk; subst ho
 exact setN_row hz D i x hx hs
theorem own_mem {S0 S : St} {Ts : List St} {l : List (Nat × Blk)} {gs : List Gr} (hl : HoldG S0 Ts S l gs) {b e : Nat} {c : List Value} {own : Bool} {kin : List Nat} (hk : (b, Blk.cells c e true own kin) ∈ l) : RowAt S b e c := ⟨(hl.at_ b _ hk).2.2, own, kin, (hl.at_ b _ hk).1⟩
def Ev.put (x : Ev) (t : Ti) : Ev := ⟨t, x.dur, x.p, x.rest, x.sign, x.pass⟩
end Go.Proofs.YtgiibikieblicaaGreatDoor
namespace Go.Proofs.YtgiibikieblicaaGreatDoor
open Go.Cm Go
set_option maxRecDepth 100000
variable {S : St}
def kc2 (p : Int × Int) : Value := aggL [.int .i64 p.1, .int .i64 p.2]
theorem eqElems_cons {P : Program} {eq : TypeId → Value → Value → Option Bool} {elem size n i : Nat} {xs ys : List Value} {x y : Value} {b r : Bool} (hx : partL P elem xs (i * size) = some x) (hy : partL P elem ys (i * size) = some y) (he : eq elem x y = some b) (hr : eqElems P eq elem size xs ys n (i + 1) = some r) : eqElems P eq elem size xs ys (n + 1) i = some (b && r) := by
 unfold eqElems
 simp only [hx, hy, he]
 cases b with
 | true => simpa using hr
 | false => rfl
theorem eq_array {P : Program} {d t len elem n : Nat} {xs ys : List Value} {r : Bool} (hu : P.underlying t = some (.array len elem)) (hz : szOf P elem = some n) (h : eqElems P (eqV P d) elem n xs ys len 0 = some r) : eqV P (d + 1) t (aggL xs) (aggL ys) = some r := by
 unfold eqV aggL
 simp only [hu, hz, h]
theorem kc2_eq (a b : Int × Int) : eqV Tryz.prog eqDepth 107 (kc2 a) (kc2 b) = some (decide (a = b)) := by
 have h : eqV Tryz.prog 40 107 (aggL [.int .i64 a.1, .int .i64 a.2]) (aggL [.int .i64 b.1, .int .i64 b.2]) = some ((a.1 == b.1) && ((a.2 == b.2) && true)) :=
  eq_array (n := 1) Tryz.underlying107 (by kernel_rfl) (eqElems_cons (part1 (by kernel_rfl) rfl) (part1 (by kernel_rfl) rfl) (eq_int Tryz.underlying3) (eqElems_cons (part1 (by kernel_rfl) rfl) (part1 (by kernel_rfl) rfl) (eq_int Tryz.underlying3) rfl))
 refine h.trans (congrArg some ?_)
 obtain ⟨a1, a2⟩ := a
 obtain ⟨b1, b2⟩ := b
 rw [Bool.eq_iff_iff]
 simp
theorem kc2_ok (p : Int × Int) : keyOk Tryz.prog 20 107 (kc2 p) = true := by
 show keyOk Tryz.prog (19 + 1) 107 (aggL [.int .i64 p.1, .int .i64 p.2]) = true
 kernel_rfl
theorem kc2_pl (p : Int × Int) : plainKey 20 (kc2 p) = true := rfl
theorem kc2_sm (p : Int × Int) : sameV 1000 (kc2 p) (kc2 p) = true := by
 show sameV (999 + 1) (.agg _) (.agg _) = true
 unfold sameV
 exact sameL_atoms _ 999 (by decide : 2 < 999) (atoms_cons (atom_int _ _) (atoms_cons (atom_int _ _) atoms_nil))
def kD {κ : Type} (D : List (κ × Int)) : List (κ × Value) := D.map fun p => (p.1, Value.int .i64 p.2)
def lkI {κ : Type} [DecidableEq κ] : List (κ × Int) → κ → Int
 | [], _ => 0
 | (a, w) :: r, k => if k = a then w else lkI r k
def putI {κ : Type} [DecidableEq κ] : List (κ × Int) → κ → Int → List (κ × Int)
 | [], k, v => [(k, v)]
 | (a, w) :: r, k, v => if k = a then (a, v) :: r else (a, w) :: putI r k v
section
variable {κ : Type} [DecidableEq κ]
theorem kD_put : ∀ (D : List (κ × Int)) (k : κ) (v : Int), putA (kD D) k (.int .i64 v) = kD (putI D k v)
 | [], k, v => rfl
 | (a, w) :: r, k, v => by
  show putA ((a, Value.int .i64 w) :: kD r) k _ = _
  unfold putA putI
  by_cases h : k = a
  ·rw [if_pos h, if_pos h]; rfl
  ·rw [if_neg h, if_neg h, kD_put r k v]; rfl
theorem kD_get : ∀ (D : List (κ × Int)) (k : κ), (asc (kD D) k).getD (.int .i64 0) = .int .i64 (lkI D k)
 | [], k => rfl
 | (a, w) :: r, k => by
  have ih := kD_get r k
  show (asc ((a, Value.int .i64 w) :: kD r) k).getD _ = _
  unfold lkI
  unfold asc at ih ⊢
  unfold posA
  by_cases h : k = a
  ·rw [if_pos h, if_pos h]; rfl
  ·rw [if_neg h, if_neg h, ← ih]
   cases posA (kD r) k <;> rfl
theorem lkI_put : ∀ (D : List (κ × Int)) (k : κ) (v : Int) (k' : κ), lkI (putI D k v) k' = if k' = k then v else lkI D k'
 | [], k, v, k' => by
  unfold putI lkI lkI
  rfl
 | (a, w) :: r, k, v, k' => by
  unfold putI
  by_cases h : k = a
  ·rw [if_pos h]
   unfold lkI
   by_cases h2 : k' = a
   ·rw [if_pos h2, if_pos (by rw [h, h2])]
   ·rw [if_neg h2, if_neg (fun e => h2 (by rw [e, h])), if_neg h2]
  ·rw [if_neg h]
   unfold lkI
   rw [lkI_put r k v k']
   by_cases h2 : k' = a
   ·subst h2
    rw [if_pos rfl, if_neg (fun e => h e.symm), if_pos rfl]
   ·rw [if_neg h2, if_neg h2]
end
abbrev PD := List ((Int × Int) × Int)
def Kds (S : St) (v : Value) (M : List PD) : Prop := ∃ ws : List Value, LsOf 104 1 (fun w => [w]) S v ws ∧ ws.length = M.length ∧ ∀ k w D, nth ws k = some w → nth M k = some D → ∃ r, w = .map (some r) ∧ r < S.size ∧ S.get r = some (mapB kc2 (kD D))
theorem Kds.keep {S S' : St} (h : Keep S S') {v : Value} {M : List PD} (hs : Kds S v M) : Kds S' v M := by
 obtain ⟨ws, h1, h2, h3⟩ := hs
 refine ⟨ws, h1.move h.rk, h2, fun k w D a b => ?_⟩
 obtain ⟨r, e1, e2, e3⟩ := h3 k w D a b
 exact ⟨r, e1, Nat.lt_of_lt_of_le e2 h.1, (h.2 r e2).trans e3⟩
theorem Kds.elem {S : St} {a : Option Addr} {n cap : Nat} {M : List PD} (h : Kds S (.slice a n cap) M) {k : Nat} {D : PD} (hk : nth M k = some D) :
  ∃ b o cs r, a = some ⟨b, o, none⟩ ∧ n = M.length ∧ RowAt S b 104 cs ∧ nth cs (o + k * 1) = some (.map (some r)) ∧ r < S.size ∧ S.get r = some (mapB kc2 (kD D)) := by
 obtain ⟨ws, h1, h2, h3⟩ := h
 obtain ⟨w, hw⟩ := nth_some (l := ws) (i := k) (by have := nth_lt hk; omega)
 obtain ⟨b, o, cs, e1, e2, e3, e4⟩ := h1.elem hw
 obtain ⟨r, rfl, e5, e6⟩ := h3 k w D hw hk
 exact ⟨b, o, cs, r, e1, e2.trans h2, e3, tk_nth e4 (j := 0) rfl, e5, e6⟩
def minI (a b : Int) : Int := if b < a then b else a
def maxI (a b : Int) : Int := if b > a then b else a
def clK (M : List PD) (n a b : Nat) : Int := lkI ((nth M n).getD []) (minI (a : Int) (b : Int), maxI (a : Int) (b : Int))
theorem clK_at {M : List PD} {n a b : Nat} {D : PD} (h : nth M n = some D) : clK M n a b = lkI D (minI (a : Int) (b : Int), maxI (a : Int) (b : Int)) := by unfold clK; rw [h]; rfl
structure KSet (S : St) (b : Nat) (aV aS aK : Option Addr) (cV cS cK : Nat) (V : List (List Ev)) (L : List Sl) (M : List PD) : Prop where
 d : DSet S b aV aS cV cS (.slice aK M.length cK) V L
 k : Kds S (.slice aK M.length cK) M
 len : M.length = L.length
 lo : ∀ n v, -1 ≤ evI L n v
theorem KSet.keep {S T : St} {b : Nat} {aV aS aK : Option Addr} {cV cS cK : Nat} {V : List (List Ev)} {L : List Sl} {M : List PD} (h : KSet S b aV aS aK cV cS cK V L M) (hk : Keep S T) : KSet T b aV aS aK cV cS cK V L M := ⟨h.d.keep hk, h.k.keep hk, h.len, h.lo⟩
noncomputable def cd47 : Code := Tryz.f47.body.getD .skip
theorem spec47 (bd : Nat) (aV aS aK : Option Addr) (cV cS cK : Nat) (V : List (List Ev)) (L : List Sl) (M : List PD) (n a b : Nat) (hd : KSet S bd aV aS aK cV cS cK V L M) (hnn : n < L.length) : CC Tryz.prog KK 47 [ptrTo bd 0, .int .i64 (n : Int), .int .i64 (a : Int), .int .i64 (b : Int)] S (fun v S' => Keep S S' ∧ v = .int .i64 (clK M n a b)) := by
 refine cc_enter (c := cd47) (n := 24) Tryz.func47 rfl rfl rfl (by kernel_rfl) rfl rfl ?_
 have hl := Hold.start S
 have hml := hd.len
 obtain ⟨D, hD⟩ := nth_some (l := M) (i := n) (by omega)
 obtain ⟨b1, o1, cs1, r1, ha, _, hrow, htk, hr1, hr2⟩ := hd.k.elem hD
 refine zg ?_; refine re_builtin (v := .int .i64 (minI (a : Int) (b : Int))) rfl rfl rfl rfl rfl rfl rfl rfl ?_; refine zg ?_; refine re_builtin (v := .int .i64 (maxI (a : Int) (b : Int))) rfl rfl rfl rfl rfl rfl rfl rfl ?_; refine rr rfl (rd_build rfl rfl (v := aggL [.int .i64 (minI (a : Int) (b : Int)), .int .i64 (maxI (a : Int) (b : Int))]) (by rfl)) ?_
 refine rr rfl (rd_lookup rfl rfl rfl ((lookup_of (k := (minI (a : Int) (b : Int), maxI (a : Int) (b : Int))) Tryz.underlying104 ((hl.keep.2 r1 hr1).trans hr2) kc2_eq (kc2_ok _) (z := .int .i64 0) (by kernel_rfl)).trans (congrArg some (kD_get D _)))) ?_; refine zg ?_
 refine y1 rfl ⟨hl.keep, congrArg (Value.int .i64) (clK_at hD).symm⟩
end Go.Proofs.YtgiibikieblicaaGreatDoor
namespace Go.Proofs.YtgiibikieblicaaGreatDoor
open Go.Cm Go
set_option maxRecDepth 100000
variable {S : St}
def susB (V : List (List Ev)) (L : List Sl) (M : List PD) (n mv hh : Nat) (k : Int) : Bool := (((((n : Int) == 0) || (evI L (n - 1) hh != k)) || (clK M (n - 1) mv hh != 0)) || (stpE V hh k != -1))
def suG (L : List Sl) (M : List PD) (mv hh : Nat) (i k : Int) : Nat → Nat → Bool
 | 0, _ => false
 | f + 1, n => bif evI L n hh == k + 1 then (evI L n mv == i) && (clK M n mv hh == 0) else suG L M mv hh i k f (n + 1)
def suE (V : List (List Ev)) (L : List Sl) (M : List PD) (n mv hh : Nat) (i k : Int) : Bool := bif susB V L M n mv hh k then false else suG L M mv hh i k (L.length - (n + 1)) (n + 1)
theorem su_1 {V : List (List Ev)} {L : List Sl} {M : List PD} {n mv hh : Nat} {i k : Int} (h : susB V L M n mv hh k = true) : suE V L M n mv hh i k = false := by unfold suE; rw [h]; rfl
theorem su_2 {V : List (List Ev)} {L : List Sl} {M : List PD} {n mv hh : Nat} {i k : Int} (h : susB V L M n mv hh k = false) : suE V L M n mv hh i k = suG L M mv hh i k (L.length - (n + 1)) (n + 1) := by unfold suE; rw [h]; rfl
theorem suG_1 {L : List Sl} {M : List PD} {mv hh : Nat} {i k : Int} {f n : Nat} (h : (evI L n hh == k + 1) = true) : suG L M mv hh i k (f + 1) n = ((evI L n mv == i) && (clK M n mv hh == 0)) := by rw [suG, h]; rfl
theorem suG_2 {L : List Sl} {M : List PD} {mv hh : Nat} {i k : Int} {f n : Nat} (h : (evI L n hh == k + 1) = false) : suG L M mv hh i k (f + 1) n = suG L M mv hh i k f (n + 1) := by rw [suG, h]; rfl
noncomputable def cd70 : Code := Tryz.f70.body.getD .skip
theorem spec70 (bd : Nat) (aV aS aK : Option Addr) (cV cS cK : Nat) (V : List (List Ev)) (L : List Sl) (M : List PD) (n mv hh : Nat) (i k : Int) (hF : Fresh S) (hG : Gl S) (hd : KSet S bd aV aS aK cV cS cK V L M) (hnn : n < L.length) (hmv : mv < V.length) (hhh : hh < V.length) (hk1 : -10 ≤ k) (hk2 : k ≤ 10000) : CC Tryz.prog KK 70 [ptrTo bd 0, aggL [.int .i64 (n : Int), .int .i64 (mv : Int), .int .i64 (hh : Int), .int .i64 i, .int .i64 k]] S (fun v S' => Keep S S' ∧ v = .bool (suE V L M n mv hh i k)) := by
 refine cc_enter (c := cd70) (n := 102) Tryz.func70 rfl rfl rfl (by kernel_rfl) rfl rfl ?_
 have hl := Hold.start S
 have hs := hd.d.set
 have hLL := hs.hL
 refine zg ?_; refine re_boxL hl rfl rfl rfl rfl rfl rfl ?_; intro B3 S3 hl; refine zA ?_; refine xp_seq rfl ?_; refine xp_seq rfl (xe_toE hl 48 (.bool (susB V L M n mv hh k)) ?_ rfl ?_)
 ·
  refine xp_draw (idx := [0, 1, 2, 3, 4, 5, 6, 7, 8, 9, 10, 11, 12, 13, 14, 15, 16, 17, 18, 19, 20, 21, 22, 23, 24, 25, 26, 27, 28, 29, 30, 31, 32, 33, 34, 35, 36, 37, 38, 39, 40, 41, 42]) rfl (by kernel_rfl) (by kernel_rfl) ?_; refine zg ?_; refine rp_bool (d := 9) rfl (fun h9 => ?_) (fun h9 => ?_)
  ·
   refine zg ?_
   exact ⟨rfl, bl (by unfold susB; rw [h9]; rfl), sB, hl⟩
  ·
   have hn0 : n ≠ 0 := by rintro rfl; cases h9
   obtain ⟨sp, hsnp⟩ := nth_some (l := L) (i := ((n : Int) - 1).toNat) (by omega)
   obtain ⟨bp, op, csp, awp, cwp, hap, _, hrowp, htkp, hivp⟩ := hs.sl.elem hsnp
   obtain ⟨hwlp, hwip⟩ := hs.wf _ sp hsnp
   obtain ⟨ihhp, hihhp⟩ := nth_some (l := sp.ev) (i := hh) (by omega)
   obtain ⟨bhhp, ohhp, cshhp, hahhp, _, hrowhhp, htkhhp⟩ := hivp.elem hihhp
   have heihhp := evI_at hsnp hihhp
   rw [show ((n : Int) - 1).toNat = n - 1 by omega] at heihhp
   have hcl := fun {T : St} (hk : Keep S T) => spec47 bd aV aS aK cV cS cK V L M (n - 1) mv hh (hd.keep hk) (by omega)
   rw [show (((n - 1 : Nat)) : Int) = (n : Int) - 1 by omega] at hcl
   refine zg ?_; refine rp_bool (d := 28) rfl (fun h28 => ?_) (fun h28 => ?_)
   ·
    refine zg ?_
    exact ⟨rfl, bl (by unfold susB; rw [h9, heihhp, h28]; rfl), sB, hl⟩
   ·
    refine zg ?_
    refine zp hl rfl (hcl hl.keep) ?_; rintro v S1 hk1 rfl hl; refine ⟨zt, ?_⟩
    refine zg ?_; refine rp_bool (d := 40) rfl (fun h40 => ?_) (fun h40 => ?_)
    ·
     refine zg ?_
     exact ⟨rfl, bl (by unfold susB; rw [h9, heihhp, h28, h40]; rfl), sB, hl⟩
    ·
     refine zg ?_
     refine zp hl rfl (spec98 bd aV aS cV cS (.slice aK M.length cK) V L hh k (hl.keep.3 hF) (hG.keep hl.keep) (hd.d.keep hl.keep) hhh (by omega) (by omega)) ?_; rintro v S1 hk1 rfl hl; refine ⟨zt, ?_⟩
     refine zg ?_
     exact ⟨rfl, bl (by unfold susB; rw [h9, heihhp, h28, h40]; rfl), sB, hl⟩
 intro S1 hl
 refine zg ?_
 constructor <;> intro h48
 ·
  refine zg ?_
  exact (z1 rfl ⟨hl.keep, by rw [su_1 h48] <;> rfl⟩)
 ·
  refine xp_skip rfl ?_; refine xp_seq rfl ?_; refine zS ?_; refine xp_block rfl ?_
  -- LOOP
  refine xe_sub (L' := [(5, .int .i64 ((n : Int) + 1)), (4, .bool false), (3, ptrTo B3 0), (0, ptrTo bd 0)]) ⟨rfl, rfl, rfl, rfl, trivial⟩ ?_
  refine xp_loop rfl (fun m Le S' => ∃ q : Nat, n + 1 ≤ q ∧ q ≤ L.length ∧ m = L.length - q ∧ suG L M mv hh i k (L.length - q) q = suG L M mv hh i k (L.length - (n + 1)) (n + 1) ∧ SubE [(5, .int .i64 (q : Int)), (4, .bool false), (3, ptrTo B3 0), (0, ptrTo bd 0)] Le ∧ HoldG S [S] S' [(B3, .cells [.int .i64 (n : Int), .int .i64 (mv : Int), .int .i64 (hh : Int), .int .i64 i, .int .i64 k] 143 false true [])] []) ?_ (m := L.length - (n + 1)) ⟨n + 1, by omega, by omega, rfl, rfl, ⟨rfl, rfl, rfl, rfl, trivial⟩, hl⟩
  clear hl; rintro m Le S' ⟨q, hq1, hq2, rfl, hsq, hsub, hl⟩; refine xe_sub hsub ?_
  refine zg ?_
  constructor <;> intro h58
  ·
   have hql : q < L.length := by have := of_decide_eq_true h58; omega
   obtain ⟨sq, hsnq⟩ := nth_some (l := L) (i := q) (by omega)
   obtain ⟨bq, oq, csq, awq, cwq, haq, _, hrowq, htkq, hivq⟩ := hs.sl.elem hsnq
   obtain ⟨hwlq, hwiq⟩ := hs.wf _ sq hsnq
   obtain ⟨ihhq, hihhq⟩ := nth_some (l := sq.ev) (i := hh) (by omega)
   obtain ⟨bhhq, ohhq, cshhq, hahhq, _, hrowhhq, htkhhq⟩ := hivq.elem hihhq
   have heihhq := evI_at hsnq hihhq
   obtain ⟨imvq, himvq⟩ := nth_some (l := sq.ev) (i := mv) (by omega)
   obtain ⟨bmvq, omvq, csmvq, hamvq, _, hrowmvq, htkmvq⟩ := hivq.elem himvq
   have heimvq := evI_at hsnq himvq
   rw [show L.length - q = (L.length - (q + 1)) + 1 by omega] at hsq
   refine zg ?_; refine xp_draw (idx := [0, 1, 2, 3, 4, 5, 6, 7, 8, 9, 10, 11, 12, 13, 14, 15]) rfl (by kernel_rfl) (by kernel_rfl) ?_; refine zA ?_; refine zi tt rfl ?_
   constructor <;> intro h76
   ·
    rw [← heihhq] at h76
    rw [suG_1 h76] at hsq
    refine xe_sub (L' := [(5, .int .i64 (q : Int)), (3, ptrTo B3 0), (0, ptrTo bd 0)]) ⟨rfl, rfl, rfl, trivial⟩ ?_; refine xp_seq rfl (xe_toE hl 4 (.bool ((evI L q mv == i) && (clK M q mv hh == 0))) ?_ rfl ?_)
    ·
     refine xp_draw (idx := [0, 1, 2, 3, 4, 5, 6, 7, 8, 9, 10, 11, 12, 13, 14, 15, 16, 17, 18, 19, 20, 21, 22, 23, 24, 25]) rfl (by kernel_rfl) (by kernel_rfl) ?_; refine zg ?_; refine rp_bool (d := 92) rfl (fun h92 => ?_) (fun h92 => ?_)
     ·
      refine zg ?_
      refine zp hl rfl (spec47 bd aV aS aK cV cS cK V L M q mv hh (hd.keep hl.keep) hql) ?_; rintro v S1 hk1 rfl hl; refine ⟨zt, ?_⟩
      refine zg ?_
      exact ⟨rfl, bl (by rw [heimvq, h92]; rfl), sB, hl⟩
     ·
      refine zg ?_
      exact ⟨rfl, bl (by rw [heimvq, h92]; rfl), sB, hl⟩
    intro S1 hl
    refine zg ?_
    refine blk_ret (thn_ret (round_ret (blk_ret ((z1 rfl ⟨hl.keep, by rw [su_2 h48, ← hsq] <;> rfl⟩)))))
   ·
    refine zg ?_
    rw [← heihhq] at h76
    rw [suG_2 h76] at hsq
    exact ⟨L.length - (q + 1), by omega, q + 1, by omega, by omega, rfl, hsq, ⟨rfl, rfl, rfl, rfl, trivial⟩, hl⟩
  ·
   refine zg ?_
   refine y1 rfl ⟨hl.keep, by rw [su_2 h48, ← hsq, show L.length - q = 0 by have := of_decide_eq_false h58; omega] <;> rfl⟩
end Go.Proofs.YtgiibikieblicaaGreatDoor

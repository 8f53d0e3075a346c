/-
  The statement WeighSettings (tactuslaw38) holds of the given program for all arguments: the card of its row is proved. Conditions: none.
  ref38: order, Of. tactuskit: OwnEvents. tactuskit.SameEvents; bigVoices. cmp; bits.Add64. weigh.sum, Compare. ref38: sums, Compare. The motions agree. The clashes agree. The dissonances agree. WeighSettings. Arguments as voices and weights. From contracts to calls. The weight of a setting is the one that the reference gives, with the same error; two weights are compared as the reference compares them; the voices are not changed: WeighSettings returns true for all settings and all weights.
-/
import Derived.Test.YtgiibikieblicaaGreatDoorSmF
import Derived.Test.YtgiibikieblicaaGreatDoorSy2
import Derived.Test.YtgiibikieblicaaGreatDoorWt4
import Derived.Test.YtgiibikieblicaaGreatDoorWt3
import Derived.Test.YtgiibikieblicaaGreatDoorCards
import Derived.Test.YtgiibikieblicaaGreatDoorTie
import Derived.WalkKit
import Derived.ProofKit
import Derived.OpenShut
import Derived.Deep.DeepHandedRow
namespace Go.Proofs.YtgiibikieblicaaGreatDoor
open Go.Cm Go
set_option maxRecDepth 100000
variable {S : St}
theorem rcn_ok {V : List (List Ev)} (h : ((rcnE V).2 != 0) = false) : COk (rcnE V).1 1280000 := by
 cases h1 : ((rdsA V).2 != 0) with
 | true => rw [rcn_1 h1] at h; rw [h1] at h; cases h
 | false =>
  rw [rcn_2 h1]
  have h2 := cntG_ok (rdsA V).1 z4 0 z4_ok
  have h3 := (rdsA_ok (V := V)).1
  exact ⟨h2.1, fun c hc => ⟨(h2.2 c hc).1, by have := (h2.2 c hc).2; omega⟩⟩
def rofE (V : List (List Ev)) : (Int × Int × Int) × Int := bif (fnE V).2 != 0 then ((0, 0, 0), (fnE V).2) else bif (rcnE V).2 != 0 then ((0, 0, 0), (rcnE V).2) else ((((fnE V).1.length : Int), (nth (rcnE V).1 3).getD 0, sumI ((rcnE V).1.take 3)), 0)
theorem rof_1 {V : List (List Ev)} (h : ((fnE V).2 != 0) = true) : rofE V = ((0, 0, 0), (fnE V).2) := by unfold rofE; rw [h]; rfl
theorem rof_2 {V : List (List Ev)} (h : ((fnE V).2 != 0) = false) (h2 : ((rcnE V).2 != 0) = true) : rofE V = ((0, 0, 0), (rcnE V).2) := by unfold rofE; rw [h, h2]; rfl
theorem rof_3 {V : List (List Ev)} {d0 d1 d2 d3 : Int} (h : ((fnE V).2 != 0) = false) (h2 : ((rcnE V).2 != 0) = false) (hC : (rcnE V).1 = [d0, d1, d2, d3]) : rofE V = ((((fnE V).1.length : Int), d3, d0 + d1 + d2), 0) := by
 unfold rofE
 rw [h, h2, hC]
 show ((((fnE V).1.length : Int), d3, 0 + d0 + d1 + d2), (0 : Int)) = _
 rw [Int.zero_add]
noncomputable def cd23 : Code := Tryz.f23.body.getD .skip
theorem spec23 (a b : Int) : CC Tryz.prog KK 23 [.int .i64 a, .int .i64 b] S (fun v S' => Keep S S' ∧ v = .int .i64 (sgn (a - b))) := by
 refine cc_enter (c := cd23) (n := 13) Tryz.func23 rfl rfl rfl (by kernel_rfl) rfl rfl ?_
 have hl := Hold.start S
 refine zg ?_
 constructor <;> intro h5
 ·
  refine zg ?_
  refine blk_ret ((z1 rfl ⟨hl.keep, congrArg (Value.int .i64) (sgn_lt h5).symm⟩))
 ·
  refine zg ?_
  constructor <;> intro h9
  ·
   refine zg ?_
   refine blk_ret ((z1 rfl ⟨hl.keep, congrArg (Value.int .i64) (sgn_gt h5 h9).symm⟩))
  ·
   refine zg ?_
   refine y1 rfl ⟨hl.keep, congrArg (Value.int .i64) (sgn_eq h5 h9).symm⟩
noncomputable def cd8 : Code := Tryz.f8.body.getD .skip
theorem spec8 (a : Option Addr) (cap : Nat) (V : List (List Ev)) (hF : Fresh S) (hv : Vs S (.slice a V.length cap) V) (hq : ∀ v n, v < V.length → n < (slsE V).1.length → rmvP V (slsE V).1 v n = mvP V (slsE V).1 v n) : CC Tryz.prog KK 8 [.slice a V.length cap] S (fun v S' => Keep S S' ∧ v = tupV [wtV (rofE V).1, .int .i64 (rofE V).2]) := by
 refine cc_enter (c := cd8) (n := 43) Tryz.func8 rfl rfl rfl (by kernel_rfl) rfl rfl ?_
 have hl := Hold.start S
 refine zg ?_; refine re_allocL hl rfl rfl rfl rfl rfl (z := [.int .i64 0, .int .i64 0, .int .i64 0]) (by kernel_rfl) ?_; intro B2 S2 hl; refine zg ?_
 refine zc hl rfl (spec16 a cap V (hl.keep.3 hF) (hv.move (hl.since 0 rfl)) hq) ?_; rintro v T1 hk1 ⟨w1, C1, rfl, hw1, hc1⟩ hl; have hl := hl.mark
 refine zg ?_
 constructor <;> intro h13
 ·
  refine zg ?_; refine rr rfl (rd_build rfl rfl (v := aggL [.int .i64 0, .int .i64 0, .int .i64 0]) (by rfl)) ?_; refine zg ?_; refine re_storeL hl 0 rfl rfl rfl rfl rfl rfl rfl (by kernel_rfl) rfl ?_; intro S1 hl; refine zg ?_
  refine thn_ret (done_ret (ress_cell rfl (lN (z := 3) (hl.get 0 rfl) rfl) (ress_tmp rfl rfl)) ⟨hl.keep, by rw [rof_1 h13] <;> rfl⟩)
 ·
  refine zg ?_
  refine zc hl rfl (spec17 a cap V (hl.keep.3 hF) (hv.move (hl.since 1 rfl))) ?_; rintro v T2 hk2 ⟨w2, rfl, hw2⟩ hl; have hl := hl.mark
  refine zg ?_
  constructor <;> intro h22
  ·
   refine zg ?_; refine rr rfl (rd_build rfl rfl (v := aggL [.int .i64 0, .int .i64 0, .int .i64 0]) (by rfl)) ?_; refine zg ?_; refine re_storeL hl 0 rfl rfl rfl rfl rfl rfl rfl (by kernel_rfl) rfl ?_; intro S1 hl; refine zg ?_
   refine thn_ret (done_ret (ress_cell rfl (lN (z := 3) (hl.get 0 rfl) rfl) (ress_tmp rfl rfl)) ⟨hl.keep, by rw [rof_2 h13 h22] <;> rfl⟩)
  ·
   have hok := rcn_ok h22
   obtain ⟨d0, d1, d2, d3, hC⟩ := four hok.1
   have hbd := hok.2
   rw [hC] at hw2 hbd
   obtain ⟨a1, k1, rfl⟩ := LsOf.is hw1
   obtain ⟨a2, k2, rfl⟩ := LsOf.is hw2
   obtain ⟨p1, q1, r1, ha1, _, hrow1, htk1⟩ := hw1.elem (hc1 h13)
   have hC1 := nth_lt (hc1 h13)
   obtain ⟨p20, q20, r20, ha20, _, hrow20, htk20⟩ := hw2.elem (k := 0) rfl
   obtain ⟨p21, q21, r21, ha21, _, hrow21, htk21⟩ := hw2.elem (k := 1) rfl
   obtain ⟨p22, q22, r22, ha22, _, hrow22, htk22⟩ := hw2.elem (k := 2) rfl
   obtain ⟨p23, q23, r23, ha23, _, hrow23, htk23⟩ := hw2.elem (k := 3) rfl
   have e0 := hbd d0 (by simp)
   have e1 := hbd d1 (by simp)
   have e2 := hbd d2 (by simp)
   refine zg ?_; refine xp_draw (idx := [0, 1, 2, 3, 4, 5, 6, 7, 8, 9, 10, 11, 12, 13, 14, 15, 16, 17, 18, 19]) rfl (by kernel_rfl) (by kernel_rfl) ?_; refine zA ?_; refine pr rfl (rd_indexAddr rfl rfl rfl (indexAddr_sl (z := 1) ha23 Tryz.underlying39 (by kernel_rfl) ⟨by omega, by show (3 : Int) < 4; omega⟩)) ?_; refine zA ?_; refine pr rfl (rd_indexAddr rfl rfl rfl (indexAddr_sl (z := 1) ha20 Tryz.underlying39 (by kernel_rfl) ⟨by omega, by show (0 : Int) < 4; omega⟩)) ?_; refine zA ?_
   refine pr rfl (rd_indexAddr rfl rfl rfl (indexAddr_sl (z := 1) ha21 Tryz.underlying39 (by kernel_rfl) ⟨by omega, by show (1 : Int) < 4; omega⟩)) ?_; refine zA ?_; refine pr rfl (rd_indexAddr rfl rfl rfl (indexAddr_sl (z := 1) ha22 Tryz.underlying39 (by kernel_rfl) ⟨by omega, by show (2 : Int) < 4; omega⟩)) ?_; refine zA ?_; refine pr rfl (rd_build rfl rfl (v := aggL [.int .i64 ((fnE V).1.length : Int), .int .i64 d3, .int .i64 (d0 + d1 + d2)]) (by rfl)) ?_
   refine rp_storeL hl 0 rfl rfl rfl rfl rfl rfl rfl (by kernel_rfl) rfl ?_; intro S1 hl; refine ⟨stays_all (by kernel_rfl), ?_⟩
   refine zg ?_
   refine done_ret (ress_cell rfl (lN (z := 3) (hl.get 0 rfl) rfl) (ress_tmp rfl rfl)) ⟨hl.keep, by rw [rof_3 h13 h22 hC] <;> rfl⟩
end Go.Proofs.YtgiibikieblicaaGreatDoor
namespace Go.Proofs.YtgiibikieblicaaGreatDoor
open Go.Cm Go
set_option maxRecDepth 100000
variable {S : St}
instance : DecidableEq Ev := fun a b => decidable_of_iff (a.at_ = b.at_ ∧ a.dur = b.dur ∧ a.p = b.p ∧ a.rest = b.rest ∧ a.sign = b.sign ∧ a.pass = b.pass) ⟨fun h => by cases a; cases b; rw [Ev.mk.injEq]; exact h, fun h => by subst h; simp⟩
def bigB (V : List (List Ev)) : Bool := decide ((V.length : Int) > 10) || V.any (fun x => decide ((x.length : Int) > 16))
theorem big_1 {V : List (List Ev)} (h : decide ((V.length : Int) > 10) = true) : bigB V = true := by unfold bigB; rw [h]; rfl
theorem big_2 {V : List (List Ev)} (h : decide ((V.length : Int) > 10) = false) : bigB V = V.any (fun x => decide ((x.length : Int) > 16)) := by unfold bigB; rw [h]; rfl
theorem same_go {x y : Ev} {A B : List Ev} (h : (!decide (x = y)) = false) : decide (x :: A = y :: B) = decide (A = B) := by
 have e : x = y := by simpa using h
 subst e
 exact decide_eq_decide.2 ⟨fun h => by injection h, fun h => by rw [h]⟩
theorem same_no {x y : Ev} {A B : List Ev} (h : (!decide (x = y)) = true) : decide (x :: A = y :: B) = false := by
 have e : x ≠ y := by simpa using h
 exact decide_eq_false fun h => by injection h with h1 h2; exact e h1
theorem same_len {A B : List Ev} (h : ((A.length : Int) != (B.length : Int)) = true) : decide (A = B) = false := by
 have e : (A.length : Int) ≠ B.length := by simpa using h
 exact decide_eq_false fun h => e (by rw [h])
theorem same_lt {A B : List Ev} (h : ((A.length : Int) != (B.length : Int)) = false) : A.length = B.length := by
 have e : (A.length : Int) = B.length := by simpa using h
 omega
theorem eqTimeD (d : Nat) (s r : Ti) : eqV Tryz.prog (d + 2) 50 s.v r.v = some (decide (s = r)) := by
 have h : eqV Tryz.prog (d + 1 + 1) 50 (aggL s.cells) (aggL r.cells) = _ := eq_struct Tryz.underlying50 (by kernel_rfl) (eqFields_cons (by kernel_rfl) (part1 (by kernel_rfl) rfl) (part1 (by kernel_rfl) rfl) (eq_int Tryz.underlying3) (eqFields_cons (by kernel_rfl) (part1 (by kernel_rfl) rfl) (part1 (by kernel_rfl) rfl) (eq_int Tryz.underlying3) rfl))
 refine h.trans (congrArg some ?_)
 cases s; cases r
 simp only [Ti.mk.injEq]
 rw [Bool.eq_iff_iff]
 simp [and_assoc]
theorem eqPitchD (d : Nat) (s r : Pt) : eqV Tryz.prog (d + 2) 52 s.v r.v = some (decide (s = r)) := by
 have h : eqV Tryz.prog (d + 1 + 1) 52 (aggL s.cells) (aggL r.cells) = _ := eq_struct Tryz.underlying52 (by kernel_rfl) (eqFields_cons (by kernel_rfl) (part1 (by kernel_rfl) rfl) (part1 (by kernel_rfl) rfl) (eq_int Tryz.underlying3) (eqFields_cons (by kernel_rfl) (part1 (by kernel_rfl) rfl) (part1 (by kernel_rfl) rfl) (eq_int Tryz.underlying3) (eqFields_cons (by kernel_rfl) (part1 (by kernel_rfl) rfl) (part1 (by kernel_rfl) rfl) (eq_int Tryz.underlying3) rfl)))
 refine h.trans (congrArg some ?_)
 cases s; cases r
 simp only [Pt.mk.injEq]
 rw [Bool.eq_iff_iff]
 simp [and_assoc]
theorem neEv (xo yo : Operand) (s r : Ev) : binV Tryz.prog .neq 54 xo yo s.v r.v = some (.bool (!decide (s = r))) := bin_ne (by kernel_rfl) (by
 have h : eqV Tryz.prog 40 54 (aggL s.cells) (aggL r.cells) = some (decide (s.at_ = r.at_) && (decide (s.dur = r.dur) && (decide (s.p = r.p) && ((s.rest == r.rest) && ((s.sign == r.sign) && ((s.pass == r.pass) && true)))))) := eq_struct Tryz.underlying54 (by kernel_rfl) (eqFields_cons (by kernel_rfl) (partN (z := 2) (l := s.at_.cells) (by kernel_rfl) (by kernel_rfl) rfl) (partN (z := 2) (l := r.at_.cells) (by kernel_rfl) (by kernel_rfl) rfl) (eqTimeD 37 _ _) (eqFields_cons (by kernel_rfl) (partN (z := 2) (l := s.dur.cells) (by kernel_rfl) (by kernel_rfl) rfl) (partN (z := 2) (l := r.dur.cells) (by kernel_rfl) (by kernel_rfl) rfl) (eqTimeD 37 _ _) (eqFields_cons (by kernel_rfl) (partN (z := 3) (l := s.p.cells) (by kernel_rfl) (by kernel_rfl) rfl) (partN (z := 3) (l := r.p.cells) (by kernel_rfl) (by kernel_rfl) rfl) (eqPitchD 37 _ _) (eqFields_cons (by kernel_rfl) (part1 (by kernel_rfl) rfl) (part1 (by kernel_rfl) rfl) (eq_bool Tryz.underlying4) (eqFields_cons (by kernel_rfl) (part1 (by kernel_rfl) rfl) (part1 (by kernel_rfl) rfl) (eq_int Tryz.underlying3) (eqFields_cons (by kernel_rfl) (part1 (by kernel_rfl) rfl) (part1 (by kernel_rfl) rfl) (eq_int Tryz.underlying3) rfl))))))
 refine h.trans (congrArg some ?_)
 cases s; cases r
 simp only [Ev.mk.injEq]
 rw [Bool.eq_iff_iff]
 simp [and_assoc])
theorem own_end {S S' : St} {v : Value} {C : List Ev} (hg : Grow S S' ⟨v, 54, 10, [] ++ (C.map Ev.cells).flatten, 0 + C.length⟩) : ∃ av, tupV [v] = .slice av C.length C.length ∧ Grow S S' (gOf 54 10 Ev.cells (.slice av C.length C.length) C) := by
 rw [List.nil_append, Nat.zero_add] at hg
 obtain ⟨a, ha⟩ := Grow.is hg
 have ha : v = .slice a C.length C.length := ha
 subst ha
 exact ⟨a, rfl, hg⟩
noncomputable def cd6 : Code := Tryz.f6.body.getD .skip
theorem spec6 (a : Option Addr) (cap : Nat) (C : List Ev) (hn : C.length ≤ 100000) (hv : Evs S (.slice a C.length cap) C) : CC Tryz.prog KK 6 [.slice a C.length cap] S (fun v S' => Keep S S' ∧ ∃ av, v = .slice av C.length C.length ∧ Grow S S' (gOf 54 10 Ev.cells (.slice av C.length C.length) C)) := by
 refine cc_enter (c := cd6) (n := 6) Tryz.func6 rfl rfl rfl (by kernel_rfl) rfl rfl ?_
 have hl := Hold.start S
 refine zg ?_; refine re_buildSliceG hl (c := []) 10 rfl rfl rfl rfl rfl Tryz.underlying27 rfl (by kernel_rfl) rfl ?_; intro v3 S1 hl
 obtain ⟨av3, rfl⟩ : ∃ x, v3 = .slice x 0 0 := Grow.is (hl.gr _ (List.mem_cons_self ..))
 refine zg ?_; refine re_appendG hl 0 rfl rfl (by simp) rfl rfl rfl rfl rfl rfl rfl Tryz.underlying27 Tryz.underlying27 rfl rfl (by kernel_rfl) (hv.move (hl.since 0 rfl)).cells (flat_len (f := Ev.cells) (z := 10) (fun _ => rfl) _) (flatCells (f := Ev.cells) (fun _ => rfl) _) (by kernel_rfl) (by show 0 + C.length ≤ maxNeed; unfold maxNeed; omega) ?_; intro v5 S1 hl; refine zg ?_
 refine y1 rfl ⟨hl.keep, own_end (hl.gr _ (List.mem_cons_self ..))⟩
end Go.Proofs.YtgiibikieblicaaGreatDoor
namespace Go.Proofs.YtgiibikieblicaaGreatDoor
open Go.Cm Go
set_option maxRecDepth 100000
variable {S : St}
noncomputable def cd11 : Code := Tryz.f11.body.getD .skip
theorem spec11 (a b : Option Addr) (ca cb : Nat) (A0 B0 : List Ev) (hn : A0.length ≤ 100000) (hva : Evs S (.slice a A0.length ca) A0) (hvb : Evs S (.slice b B0.length cb) B0) : CC Tryz.prog KK 11 [.slice a A0.length ca, .slice b B0.length cb] S (fun v S' => Keep S S' ∧ v = .bool (decide (A0 = B0))) := by
 refine cc_enter (c := cd11) (n := 26) Tryz.func11 rfl rfl rfl (by kernel_rfl) rfl rfl ?_
 have hl := Hold.start S
 refine zg ?_
 constructor <;> intro h10
 ·
  refine zg ?_
  exact (z1 rfl ⟨hl.keep, by rw [same_len h10] <;> rfl⟩)
 ·
  refine xp_skip rfl ?_; refine xp_seq rfl ?_; refine zS ?_; refine xp_block rfl ?_
  -- LOOP
  have hlen : A0.length = B0.length := same_lt h10
  refine xe_sub (L' := [(5, .int .i64 0), (4, .bool false), (0, .slice a A0.length ca), (1, .slice b B0.length cb)]) ⟨rfl, rfl, rfl, rfl, trivial⟩ ?_
  refine xp_loop rfl (fun m Le S' => ∃ i : Nat, i ≤ A0.length ∧ m = A0.length - i ∧ decide (A0.drop i = B0.drop i) = decide (A0 = B0) ∧ SubE [(5, .int .i64 (i : Int)), (4, .bool false), (0, .slice a A0.length ca), (1, .slice b B0.length cb)] Le ∧ HoldG S [S] S' [] []) ?_ (m := A0.length) ⟨0, by omega, rfl, rfl, ⟨rfl, rfl, rfl, rfl, trivial⟩, hl⟩
  clear hl; rintro m Le S' ⟨i, hi, rfl, hin, hsub, hl⟩; refine xe_sub hsub ?_
  refine zg ?_
  constructor <;> intro h14
  ·
   have hlt : i < A0.length := by have := of_decide_eq_true h14; omega
   obtain ⟨x, hx⟩ := nth_some hlt
   obtain ⟨y, hy⟩ := nth_some (l := B0) (i := i) (by omega)
   obtain ⟨b1, o1, cs1, ha1, _, hrow1, htk1⟩ := hva.elem hx
   obtain ⟨b2, o2, cs2, ha2, _, hrow2, htk2⟩ := hvb.elem hy
   rw [drop_nth' hx, drop_nth' hy] at hin
   refine zg ?_; refine xp_draw (idx := [0, 1, 2, 3, 4, 5, 6, 7, 8]) rfl (by kernel_rfl) (by kernel_rfl) ?_; refine zg ?_; refine pr rfl (rd_bin rfl rfl rfl (neEv _ _ x y)) ?_; refine zg ?_
   constructor <;> intro h25
   ·
    refine zg ?_
    refine blk_ret (thn_ret (round_ret (blk_ret ((z1 rfl ⟨hl.keep, by rw [← hin, same_no h25] <;> rfl⟩)))))
   ·
    refine zg ?_
    exact ⟨A0.length - (i + 1), by omega, i + 1, by omega, rfl, by rw [← hin, same_go h25], ⟨rfl, rfl, rfl, rfl, trivial⟩, hl⟩
  ·
   refine zg ?_
   refine y1 rfl ⟨hl.keep, by rw [← hin, List.drop_eq_nil_of_le (by have := of_decide_eq_false h14; omega), List.drop_eq_nil_of_le (by have := of_decide_eq_false h14; omega)] <;> rfl⟩
noncomputable def cd4 : Code := Tryz.f4.body.getD .skip
theorem spec4 (a : Option Addr) (cap : Nat) (V : List (List Ev)) (hv : Vs S (.slice a V.length cap) V) : CC Tryz.prog KK 4 [.slice a V.length cap] S (fun v S' => Keep S S' ∧ v = .bool (bigB V)) := by
 refine cc_enter (c := cd4) (n := 19) Tryz.func4 rfl rfl rfl (by kernel_rfl) rfl rfl ?_
 have hl := Hold.start S
 refine zg ?_
 constructor <;> intro h6
 ·
  refine zg ?_
  exact (z1 rfl ⟨hl.keep, by rw [big_1 h6] <;> rfl⟩)
 ·
  refine xp_skip rfl ?_; refine xp_seq rfl ?_; refine zS ?_; refine xp_block rfl ?_
  -- LOOP
  have hn10 : (V.length : Int) ≤ 10 := by have := of_decide_eq_false h6; omega
  refine xe_sub (L' := [(3, .int .i64 0), (2, .bool false), (0, .slice a V.length cap)]) ⟨rfl, rfl, rfl, trivial⟩ ?_
  refine xp_loop rfl (fun m Le S' => ∃ i : Nat, i ≤ V.length ∧ m = V.length - i ∧ (V.drop i).any (fun x : List Ev => decide ((x.length : Int) > 16)) = V.any (fun x : List Ev => decide ((x.length : Int) > 16)) ∧ SubE [(3, .int .i64 (i : Int)), (2, .bool false), (0, .slice a V.length cap)] Le ∧ HoldG S [S] S' [] []) ?_ (m := V.length) ⟨0, by omega, rfl, rfl, ⟨rfl, rfl, rfl, trivial⟩, hl⟩
  clear hl; rintro m Le S' ⟨i, hi, rfl, hin, hsub, hl⟩; refine xe_sub hsub ?_
  refine zg ?_
  constructor <;> intro h10
  ·
   have hlt : i < V.length := by have := of_decide_eq_true h10; omega
   obtain ⟨x, hx⟩ := nth_some hlt
   obtain ⟨b1, o1, cs1, aw, cw, ha, _, hrow, htk, hvx⟩ := hv.elem hx
   rw [drop_nth' hx, List.any_cons] at hin
   refine zg ?_
   constructor <;> intro h18
   ·
    refine zg ?_
    refine blk_ret (thn_ret (round_ret (blk_ret ((z1 rfl ⟨hl.keep, by rw [big_2 h6, ← hin, h18] <;> rfl⟩)))))
   ·
    refine zg ?_
    exact ⟨V.length - (i + 1), by omega, i + 1, by omega, rfl, by rw [← hin, h18]; rfl, ⟨rfl, rfl, rfl, trivial⟩, hl⟩
  ·
   refine zg ?_
   refine y1 rfl ⟨hl.keep, by rw [big_2 h6, ← hin, List.drop_eq_nil_of_le (by have := of_decide_eq_false h10; omega)] <;> rfl⟩
end Go.Proofs.YtgiibikieblicaaGreatDoor
namespace Go.Proofs.YtgiibikieblicaaGreatDoor
open Go.Cm Go
set_option maxRecDepth 100000
variable {S : St}
def orI : List Int → Int
 | [] => 0
 | x :: r => bif x != 0 then x else orI r
theorem orI_1 {x : Int} {r : List Int} (h : (x != 0) = true) : orI (x :: r) = x := by rw [orI, h]; rfl
theorem orI_2 {x : Int} {r : List Int} (h : (x != 0) = false) : orI (x :: r) = orI r := by rw [orI, h]; rfl
theorem spec28 (x y : Int) (hx : 0 ≤ x) (hy : 0 ≤ y) : CC Tryz.prog KK 28 [.int .u64 x, .int .u64 y, .int .u64 0] S (fun v S' => Keep S S' ∧ v = tupV [.int .u64 ((x + y + 0) % 18446744073709551616), .int .u64 ((x + y + 0) / 18446744073709551616)]) := by
 have h : KK.ext 28 [.int .u64 x, .int .u64 y, .int .u64 0] S = some (.tuple #[.int .u64 ((x + y + 0) % 18446744073709551616), .int .u64 ((x + y + 0) / 18446744073709551616)], S) := by
  show (bif (Nat.beq 28 28 && (decide (0 ≤ x) && (decide (0 ≤ y) && (decide ((0 : Int) ≤ 0) && decide ((0 : Int) ≤ 1))))) then _ else none) = _
  rw [decide_eq_true hx, decide_eq_true hy]
  rfl
 refine ⟨0, _, S, ?_, Keep.refl S, rfl⟩
 show enterB Tryz.prog KK (fns Tryz.prog KK 0) 28 [.int .u64 x, .int .u64 y, .int .u64 0] S = _
 unfold enterB
 rw [Tryz.func28]
 show (match KK.ext 28 [.int .u64 x, .int .u64 y, .int .u64 0] S with
  | some (v, S') => some (Ending.returned v, S')
  | none => none) = _
 rw [h]
 rfl
noncomputable def cd30 : Code := Tryz.f30.body.getD .skip
theorem spec30 (x : Int) : CC Tryz.prog KK 30 [.int .i64 x] S (fun v S' => Keep S S' ∧ v = .bool false) := by
 refine cc_enter (c := cd30) (n := 6) Tryz.func30 rfl rfl rfl (by kernel_rfl) rfl rfl ?_
 have hl := Hold.start S
 refine zg ?_
 refine y1 rfl ⟨hl.keep, congrArg Value.bool (bne_self_eq_false x)⟩
noncomputable def cd21 : Code := Tryz.f21.body.getD .skip
theorem spec21 (x y : Int) : CC Tryz.prog KK 21 [.int .i64 x, .int .i64 y] S (fun v S' => Keep S S' ∧ v = .int .i64 (sgn (x - y))) := by
 refine cc_enter (c := cd21) (n := 20) Tryz.func21 rfl rfl rfl (by kernel_rfl) rfl rfl ?_
 have hl := Hold.start S
 refine zg ?_
 refine zc hl rfl (spec30 x) ?_; rintro v S1 hk1 rfl hl
 refine zg ?_
 refine zc hl rfl (spec30 y) ?_; rintro v S1 hk1 rfl hl
 refine zg ?_
 constructor <;> intro h11
 ·
  refine zg ?_
  constructor <;> intro h12
  ·
   refine zg ?_
   refine thn_ret ((z1 rfl ⟨hl.keep, absurd h11 (by decide)⟩))
  ·
   refine zg ?_
   exact (z1 rfl ⟨hl.keep, absurd h11 (by decide)⟩)
 ·
  refine zg ?_
  constructor <;> intro h13
  ·
   refine zg ?_
   exact (z1 rfl ⟨hl.keep, absurd h13 (by decide)⟩)
  ·
   refine zg ?_
   constructor <;> intro h16
   ·
    refine zg ?_
    exact (z1 rfl ⟨hl.keep, congrArg (Value.int .i64) (sgn_lt h16).symm⟩)
   ·
    refine zg ?_
    constructor <;> intro h19
    ·
     refine zg ?_
     exact (z1 rfl ⟨hl.keep, congrArg (Value.int .i64) (sgn_gt h16 h19).symm⟩)
    ·
     refine zg ?_
     refine y1 rfl ⟨hl.keep, congrArg (Value.int .i64) (sgn_eq h16 h19).symm⟩
noncomputable def cd29 : Code := Tryz.f29.body.getD .skip
theorem spec29 (x : Int) : CC Tryz.prog KK 29 [.int .u64 x] S (fun v S' => Keep S S' ∧ v = .bool false) := by
 refine cc_enter (c := cd29) (n := 6) Tryz.func29 rfl rfl rfl (by kernel_rfl) rfl rfl ?_
 have hl := Hold.start S
 refine zg ?_
 refine y1 rfl ⟨hl.keep, congrArg Value.bool (bne_self_eq_false x)⟩
noncomputable def cd20 : Code := Tryz.f20.body.getD .skip
theorem spec20 (x y : Int) : CC Tryz.prog KK 20 [.int .u64 x, .int .u64 y] S (fun v S' => Keep S S' ∧ v = .int .i64 (sgn (x - y))) := by
 refine cc_enter (c := cd20) (n := 20) Tryz.func20 rfl rfl rfl (by kernel_rfl) rfl rfl ?_
 have hl := Hold.start S
 refine zg ?_
 refine zc hl rfl (spec29 x) ?_; rintro v S1 hk1 rfl hl
 refine zg ?_
 refine zc hl rfl (spec29 y) ?_; rintro v S1 hk1 rfl hl
 refine zg ?_
 constructor <;> intro h11
 ·
  refine zg ?_
  constructor <;> intro h12
  ·
   refine zg ?_
   refine thn_ret ((z1 rfl ⟨hl.keep, absurd h11 (by decide)⟩))
  ·
   refine zg ?_
   exact (z1 rfl ⟨hl.keep, absurd h11 (by decide)⟩)
 ·
  refine zg ?_
  constructor <;> intro h13
  ·
   refine zg ?_
   exact (z1 rfl ⟨hl.keep, absurd h13 (by decide)⟩)
  ·
   refine zg ?_
   constructor <;> intro h16
   ·
    refine zg ?_
    exact (z1 rfl ⟨hl.keep, congrArg (Value.int .i64) (sgn_lt h16).symm⟩)
   ·
    refine zg ?_
    constructor <;> intro h19
    ·
     refine zg ?_
     exact (z1 rfl ⟨hl.keep, congrArg (Value.int .i64) (sgn_gt h16 h19).symm⟩)
    ·
     refine zg ?_
     refine y1 rfl ⟨hl.keep, congrArg (Value.int .i64) (sgn_eq h16 h19).symm⟩
noncomputable def cd19 : Code := Tryz.f19.body.getD .skip
theorem spec19 (a : Option Addr) (cap : Nat) (C : List Int) (hn : C.length ≤ 1000) (hv : Ints S (.slice a C.length cap) C) : CC Tryz.prog KK 19 [.slice a C.length cap] S (fun v S' => Keep S S' ∧ v = .int .i64 (orI C)) := by
 refine cc_enter (c := cd19) (n := 18) Tryz.func19 rfl rfl rfl (by kernel_rfl) rfl rfl ?_
 have hl := Hold.start S
 iterate 2 refine zS ?_
 refine xp_seq rfl ?_; refine zS ?_; refine xp_block rfl ?_
 -- LOOP
 refine xe_sub (L' := [(8, .int .i64 0), (7, .int .i64 C.length), (6, .slice a C.length cap), (3, .int .i64 0), (2, .int .i64 0)]) ⟨rfl, rfl, rfl, rfl, rfl, trivial⟩ ?_
 refine xp_loop rfl (fun m Le S' => ∃ i : Nat, i ≤ C.length ∧ m = C.length - i ∧ orI (C.drop i) = orI C ∧ SubE [(8, .int .i64 (i : Int)), (7, .int .i64 C.length), (6, .slice a C.length cap), (3, .int .i64 0), (2, .int .i64 0)] Le ∧ HoldG S [S] S' [] []) ?_ (m := C.length) ⟨0, by omega, rfl, rfl, ⟨rfl, rfl, rfl, rfl, rfl, trivial⟩, hl⟩
 clear hl; rintro m Le S' ⟨i, hi, rfl, hin, hsub, hl⟩; refine xe_sub hsub ?_
 refine zg ?_
 constructor <;> intro h9
 ·
  have hlt : i < C.length := by have := of_decide_eq_true h9; omega
  obtain ⟨x, hx⟩ := nth_some hlt
  obtain ⟨b1, o1, cs1, ha, _, hrow, htk⟩ := hv.elem hx
  rw [drop_nth' hx] at hin
  refine zg ?_
  constructor <;> intro h14
  ·
   refine zg ?_
   refine blk_ret (thn_ret (round_ret (blk_ret ((z1 rfl ⟨hl.keep, congrArg (Value.int .i64) (by rw [← hin, orI_1 h14])⟩)))))
  ·
   refine zg ?_
   exact ⟨C.length - (i + 1), by omega, i + 1, by omega, rfl, by rw [← hin, orI_2 h14], ⟨rfl, rfl, rfl, rfl, rfl, trivial⟩, hl⟩
 ·
  refine zg ?_
  refine y1 rfl ⟨hl.keep, congrArg (Value.int .i64) (by rw [← hin, List.drop_eq_nil_of_le (by have := of_decide_eq_false h9; omega)]; rfl)⟩
end Go.Proofs.YtgiibikieblicaaGreatDoor
namespace Go.Proofs.YtgiibikieblicaaGreatDoor
open Go.Cm Go
set_option maxRecDepth 100000
variable {S : St}
theorem xor63 {m : Nat} (h : m < 2 ^ 63) : m ^^^ 2 ^ 63 = 2 ^ 63 + m := by
 apply Nat.eq_of_testBit_eq
 intro j
 rw [Nat.testBit_xor, Nat.testBit_two_pow]
 rcases Nat.lt_trichotomy j 63 with hj | hj | hj
 ·rw [Nat.testBit_two_pow_add_gt hj, decide_eq_false (by omega)]; simp
 ·subst hj; rw [Nat.testBit_two_pow_add_eq, Nat.testBit_lt_two_pow h]; rfl
 ·have h1 : m < 2 ^ j := Nat.lt_trans h (Nat.pow_lt_pow_right (by decide) hj)
  have h2 : 2 ^ 63 + m < 2 ^ j := Nat.lt_of_lt_of_le (by omega : 2 ^ 63 + m < 2 ^ 64) (Nat.pow_le_pow_right (by decide) hj)
  rw [Nat.testBit_lt_two_pow h1, Nat.testBit_lt_two_pow h2, decide_eq_false (by omega)]; rfl
theorem xor63b {m : Nat} (h : m < 2 ^ 63) : (2 ^ 63 + m) ^^^ 2 ^ 63 = m := by rw [← xor63 h, Nat.xor_assoc, Nat.xor_self, Nat.xor_zero]
def I64 (a : Int) : Prop := -9223372036854775808 ≤ a ∧ a ≤ 9223372036854775807
theorem u64w (n : Int) : IntKind.u64.wrap n = n % 18446744073709551616 := rfl
theorem xorV {P : Program} {t : TypeId} {xo yo : Operand} {a : Int} (h : I64 a) : binV P .xor t xo yo (.int .u64 (IntKind.u64.wrap a)) (.int .u64 9223372036854775808) = some (.int .u64 (a + 9223372036854775808)) := by
 show some (Value.int .u64 (IntKind.u64.wrap ((BitVec.ofInt 64 (IntKind.u64.wrap a) ^^^ BitVec.ofInt 64 9223372036854775808).toNat : Nat))) = _
 have hx : (BitVec.ofInt 64 (IntKind.u64.wrap a) ^^^ BitVec.ofInt 64 9223372036854775808).toNat = (a + 9223372036854775808).toNat := by
  rw [BitVec.toNat_xor, BitVec.toNat_ofInt, BitVec.toNat_ofInt, u64w]
  show (a % 18446744073709551616 % 18446744073709551616).toNat ^^^ (2 ^ 63 : Nat) = _
  unfold I64 at h
  by_cases h0 : 0 ≤ a
  ·rw [show (a % 18446744073709551616 % 18446744073709551616).toNat = a.toNat by omega, xor63 (by omega)]; omega
  ·rw [show (a % 18446744073709551616 % 18446744073709551616).toNat = 2 ^ 63 + (a + 9223372036854775808).toNat by omega, xor63b (by omega)]
 rw [hx, u64w]
 unfold I64 at h
 rw [show (((a + 9223372036854775808).toNat : Nat) : Int) % 18446744073709551616 = a + 9223372036854775808 by omega]
def sHi (a b : Int) : Int := (a + b + 18446744073709551616) / 18446744073709551616
def sLo (a b : Int) : Int := (a + b + 18446744073709551616) % 18446744073709551616
def cwE (w u : Int × Int × Int) : Int := orI [sgn (sHi w.1 w.2.1 - sHi u.1 u.2.1), sgn (sLo w.1 w.2.1 - sLo u.1 u.2.1), sgn (w.1 - u.1), sgn (w.2.2 - u.2.2)]
def W64 (w : Int × Int × Int) : Prop := I64 w.1 ∧ I64 w.2.1 ∧ I64 w.2.2
noncomputable def cd18 : Code := Tryz.f18.body.getD .skip
theorem spec18 (a b : Int) (ha : I64 a) (hb : I64 b) : CC Tryz.prog KK 18 [.int .i64 a, .int .i64 b] S (fun v S' => Keep S S' ∧ v = tupV [.int .u64 (sHi a b), .int .u64 (sLo a b)]) := by
 refine cc_enter (c := cd18) (n := 18) Tryz.func18 rfl rfl rfl (by kernel_rfl) rfl rfl ?_
 have hl := Hold.start S
 have ha2 := ha.1
 have hb2 := hb.1
 refine zg ?_; refine re_conv rfl rfl rfl rfl rfl rfl rfl ?_; refine rr rfl (rd_bin rfl rfl rfl (xorV ha)) ?_; refine zg ?_; refine re_conv rfl rfl rfl rfl rfl rfl rfl ?_; refine rr rfl (rd_bin rfl rfl rfl (xorV hb)) ?_
 refine zc hl rfl (spec28 (a + 9223372036854775808) (b + 9223372036854775808) (by omega) (by omega)) ?_; rintro v S1 hk1 rfl hl
 refine zg ?_
 refine y2 rfl rfl ⟨hl.keep, by unfold sHi sLo; rw [show a + 9223372036854775808 + (b + 9223372036854775808) + 0 = a + b + 18446744073709551616 by omega]⟩
noncomputable def cd9 : Code := Tryz.f9.body.getD .skip
theorem spec9 (w u : Int × Int × Int) (hF : Fresh S) (hw : W64 w) (hu : W64 u) : CC Tryz.prog KK 9 [wtV w, wtV u] S (fun v S' => Keep S S' ∧ v = .int .i64 (cwE w u)) := by
 refine cc_enter (c := cd9) (n := 43) Tryz.func9 rfl rfl rfl (by kernel_rfl) rfl rfl ?_
 have hl := Hold.start S
 refine zg ?_; refine re_boxL hl rfl rfl rfl rfl rfl rfl ?_; intro B2 S2 hl; refine re_boxL hl rfl rfl rfl rfl rfl rfl ?_; intro B3 S3 hl; refine zg ?_
 refine zc hl rfl (spec18 w.1 w.2.1 hw.1 hw.2.1) ?_; rintro v S1 hk1 rfl hl
 refine zg ?_
 refine zc hl rfl (spec18 u.1 u.2.1 hu.1 hu.2.1) ?_; rintro v S1 hk1 rfl hl
 refine zg ?_; refine xp_draw (idx := [0, 1, 3, 4, 6, 7, 8, 9, 11, 12, 13, 14, 2, 5, 10, 15, 16, 17, 18]) rfl (by kernel_rfl) (by kernel_rfl) ?_; refine zg ?_
 refine zp hl rfl (spec20 (sHi w.1 w.2.1) (sHi u.1 u.2.1)) ?_; rintro v S1 hk1 rfl hl; refine ⟨zt, ?_⟩
 refine zp hl rfl (spec20 (sLo w.1 w.2.1) (sLo u.1 u.2.1)) ?_; rintro v S1 hk1 rfl hl; refine ⟨zt, ?_⟩
 refine zp hl rfl (spec21 (w.1) (u.1)) ?_; rintro v S1 hk1 rfl hl; refine ⟨zt, ?_⟩
 refine zp hl rfl (spec21 (w.2.2) (u.2.2)) ?_; rintro v S1 hk1 rfl hl; refine ⟨zt, ?_⟩
 refine rp_buildSliceR hF hl rfl rfl rfl rfl rfl Tryz.underlying39 rfl (c := (([sgn (sHi w.1 w.2.1 - sHi u.1 u.2.1), sgn (sLo w.1 w.2.1 - sLo u.1 u.2.1), sgn (w.1 - u.1), sgn (w.2.2 - u.2.2)] : List Int).map ic).flatten) (by kernel_rfl) ?_; intro B41 S1 hg41 hr41 hl
 refine zp hl rfl (spec19 (some ⟨B41, 0, none⟩) 4 [sgn (sHi w.1 w.2.1 - sHi u.1 u.2.1), sgn (sLo w.1 w.2.1 - sLo u.1 u.2.1), sgn (w.1 - u.1), sgn (w.2.2 - u.2.2)] (by show 4 ≤ 1000; omega) (LsOf.row (f := ic) (fun _ => rfl) hr41 rfl)) ?_; rintro v S1 hk1 rfl hl; refine ⟨zt, ?_⟩
 refine zg ?_
 refine y1 rfl ⟨hl.keep, rfl⟩
end Go.Proofs.YtgiibikieblicaaGreatDoor
namespace Go.Proofs.YtgiibikieblicaaGreatDoor
open Go.Cm Go
set_option maxRecDepth 100000
variable {S : St}
theorem shr1 {P : Program} {t : TypeId} {xo yo : Operand} {a : Int} : binV P .shr t xo yo (.int .i64 a) (.int .u64 1) = some (.int .i64 (a / 2)) := by
 show some (Value.int .i64 (a.fdiv 2)) = _
 rw [Int.fdiv_eq_ediv_of_nonneg _ (by decide)]
theorem and1 {P : Program} {t : TypeId} {xo yo : Operand} {a : Int} : binV P .and t xo yo (.int .i64 a) (.int .i64 1) = some (.int .i64 (a % 2)) := by
 show some (Value.int .i64 (IntKind.i64.wrap ((BitVec.ofInt 64 a &&& BitVec.ofInt 64 1).toNat : Nat))) = _
 have hx : (BitVec.ofInt 64 a &&& BitVec.ofInt 64 1).toNat = (a % 2).toNat := by
  rw [BitVec.toNat_and, BitVec.toNat_ofInt, BitVec.toNat_ofInt]
  show (a % 18446744073709551616).toNat &&& 1 = _
  rw [Nat.and_one_is_mod]
  omega
 rw [hx, show (((a % 2).toNat : Nat) : Int) = a % 2 by omega, IntWalk.i64_in _ (by omega)]
def hfE (a b : Int) : Int := a / 2 + b / 2 + (a % 2 + b % 2) / 2
def rmE (a b : Int) : Int := (a % 2 + b % 2) % 2
def rsmE (a b c d : Int) : Int := bif sgn (hfE a b - hfE c d) != 0 then sgn (hfE a b - hfE c d) else sgn (rmE a b - rmE c d)
theorem rsm_1 {a b c d : Int} (h : (sgn (hfE a b - hfE c d) != 0) = true) : rsmE a b c d = sgn (hfE a b - hfE c d) := by unfold rsmE; rw [h]; rfl
theorem rsm_2 {a b c d : Int} (h : (sgn (hfE a b - hfE c d) != 0) = false) : rsmE a b c d = sgn (rmE a b - rmE c d) := by unfold rsmE; rw [h]; rfl
def rn1 (w u : Int × Int × Int) : Int := bif rsmE w.1 w.2.1 u.1 u.2.1 == 0 then sgn (w.1 - u.1) else rsmE w.1 w.2.1 u.1 u.2.1
def rcwE (w u : Int × Int × Int) : Int := bif rn1 w u == 0 then sgn (w.2.2 - u.2.2) else rn1 w u
theorem sgn_lex {p q r s x y : Int} (h1 : x < y → p < q ∨ (p = q ∧ r < s)) (h2 : x = y → p = q ∧ r = s) (h3 : y < x → q < p ∨ (p = q ∧ s < r)) : (bif sgn (p - q) != 0 then sgn (p - q) else sgn (r - s)) = sgn (x - y) := by
 have lt : ∀ a b : Int, a < b → sgn (a - b) = -1 := fun a b h => sgn_1 (decide_eq_true (by omega))
 have gt : ∀ a b : Int, b < a → sgn (a - b) = 1 := fun a b h => sgn_2 (decide_eq_false (by omega)) (decide_eq_true (by omega))
 have eq : ∀ a b : Int, a = b → sgn (a - b) = 0 := fun a b h => by rw [h, Int.sub_self]; rfl
 rcases Int.lt_trichotomy x y with h | h | h
 ·rw [lt x y h]
  rcases h1 h with h | ⟨h, h'⟩
  ·rw [lt p q h]; rfl
  ·rw [eq p q h, lt r s h']; rfl
 ·rw [eq x y h, eq p q (h2 h).1, eq r s (h2 h).2]; rfl
 ·rw [gt x y h]
  rcases h3 h with h | ⟨h, h'⟩
  ·rw [gt p q h]; rfl
  ·rw [eq p q h, gt r s h']; rfl
theorem rsm_eq (a b c d : Int) : rsmE a b c d = sgn ((a + b) - (c + d)) := by
 unfold rsmE
 exact sgn_lex (by unfold hfE rmE; omega) (by unfold hfE rmE; omega) (by unfold hfE rmE; omega)
theorem orI_two (x y : Int) (r : List Int) : orI (x :: y :: r) = bif (bif x != 0 then x else y) != 0 then (bif x != 0 then x else y) else orI r := by
 cases h : x != 0 with
 | true => rw [orI_1 h]; show x = bif x != 0 then x else orI r; rw [h]; rfl
 | false => rw [orI_2 h]; rfl
theorem cw_eq (w u : Int × Int × Int) : rcwE w u = cwE w u := by
 have e : (bif sgn (sHi w.1 w.2.1 - sHi u.1 u.2.1) != 0 then sgn (sHi w.1 w.2.1 - sHi u.1 u.2.1) else sgn (sLo w.1 w.2.1 - sLo u.1 u.2.1)) = sgn ((w.1 + w.2.1) - (u.1 + u.2.1)) :=
  sgn_lex (by unfold sHi sLo; omega) (by unfold sHi sLo; omega) (by unfold sHi sLo; omega)
 unfold cwE
 rw [orI_two, e, ← rsm_eq]
 unfold rcwE rn1
 generalize rsmE w.1 w.2.1 u.1 u.2.1 = n
 generalize sgn (w.1 - u.1) = k
 generalize sgn (w.2.2 - u.2.2) = m
 cases hn : n != 0 with
 | true =>
  have h0 : (n == 0) = false := by simpa using hn
  rw [h0]
  show (bif n == 0 then m else n) = n
  rw [h0]; rfl
 | false =>
  have h0 : (n == 0) = true := by simpa using hn
  rw [h0]
  show (bif k == 0 then m else k) = bif k != 0 then k else bif m != 0 then m else 0
  cases hk : k != 0 with
  | true => rw [show (k == 0) = false by simpa using hk]; rfl
  | false =>
   rw [show (k == 0) = true by simpa using hk]
   show m = bif m != 0 then m else 0
   cases hm : m != 0 with
   | true => rfl
   | false => show m = 0; simpa using hm
noncomputable def cd22 : Code := Tryz.f22.body.getD .skip
theorem spec22 (a b c d : Int) (ha : I64 a) (hb : I64 b) (hc : I64 c) (hd : I64 d) : CC Tryz.prog KK 22 [.int .i64 a, .int .i64 b, .int .i64 c, .int .i64 d] S (fun v S' => Keep S S' ∧ v = .int .i64 (rsmE a b c d)) := by
 refine cc_enter (c := cd22) (n := 51) Tryz.func22 rfl rfl rfl (by kernel_rfl) rfl rfl ?_
 have hl := Hold.start S
 obtain ⟨ha1, ha2⟩ := ha
 obtain ⟨hb1, hb2⟩ := hb
 obtain ⟨hc1, hc2⟩ := hc
 obtain ⟨hd1, hd2⟩ := hd
 refine zg ?_; refine rr rfl (rd_bin rfl rfl rfl shr1) ?_; refine zg ?_; refine rr rfl (rd_bin rfl rfl rfl shr1) ?_; refine zg ?_; refine rr rfl (rd_bin rfl rfl rfl and1) ?_; refine zg ?_; refine rr rfl (rd_bin rfl rfl rfl and1) ?_; refine zg ?_; refine rr rfl (rd_bin rfl rfl rfl shr1) ?_; refine zg ?_; refine rr rfl (rd_bin rfl rfl rfl shr1) ?_; refine zg ?_; refine rr rfl (rd_bin rfl rfl rfl shr1) ?_; refine zg ?_; refine rr rfl (rd_bin rfl rfl rfl and1) ?_; refine zg ?_; refine rr rfl (rd_bin rfl rfl rfl and1) ?_; refine zg ?_; refine rr rfl (rd_bin rfl rfl rfl shr1) ?_; refine zg ?_
 refine zc hl rfl (spec23 (hfE a b) (hfE c d)) ?_; rintro v S1 hk1 rfl hl
 refine zg ?_
 constructor <;> intro h36
 ·
  refine zg ?_
  exact (z1 rfl ⟨hl.keep, by rw [rsm_1 h36] <;> rfl⟩)
 ·
  refine zg ?_; refine rr rfl (rd_bin rfl rfl rfl and1) ?_; refine zg ?_; refine rr rfl (rd_bin rfl rfl rfl and1) ?_; refine zg ?_; refine rr rfl (rd_bin rfl rfl rfl and1) ?_; refine zg ?_; refine rr rfl (rd_bin rfl rfl rfl and1) ?_; refine zg ?_; refine rr rfl (rd_bin rfl rfl rfl and1) ?_; refine zg ?_; refine rr rfl (rd_bin rfl rfl rfl and1) ?_
  refine zc hl rfl (spec23 (rmE a b) (rmE c d)) ?_; rintro v S1 hk1 rfl hl
  refine zg ?_
  refine y1 rfl ⟨hl.keep, by rw [rsm_2 h36] <;> rfl⟩
noncomputable def cd10 : Code := Tryz.f10.body.getD .skip
theorem spec10 (w u : Int × Int × Int) (hw : W64 w) (hu : W64 u) : CC Tryz.prog KK 10 [wtV w, wtV u] S (fun v S' => Keep S S' ∧ v = .int .i64 (rcwE w u)) := by
 refine cc_enter (c := cd10) (n := 30) Tryz.func10 rfl rfl rfl (by kernel_rfl) rfl rfl ?_
 have hl := Hold.start S
 refine zg ?_; refine re_boxL hl rfl rfl rfl rfl rfl rfl ?_; intro B2 S2 hl; refine re_boxL hl rfl rfl rfl rfl rfl rfl ?_; intro B3 S3 hl; refine zg ?_
 refine zc hl rfl (spec22 w.1 w.2.1 u.1 u.2.1 hw.1 hw.2.1 hu.1 hu.2.1) ?_; rintro v S1 hk1 rfl hl
 refine zA ?_; refine xp_seq rfl (xe_cut (fun Le S' => SubE [(5, .int .i64 (rn1 w u)), (4, .int .i64 0), (3, ptrTo B3 0), (2, ptrTo B2 0)] Le ∧ HoldG S [S] S' [(B3, .cells [.int .i64 u.1, .int .i64 u.2.1, .int .i64 u.2.2] 24 false true []), (B2, .cells [.int .i64 w.1, .int .i64 w.2.1, .int .i64 w.2.2] 24 false true [])] []) ?_ ?_)
 ·
  refine zg ?_
  constructor <;> intro h16
  ·
   refine zg ?_
   refine zc hl rfl (spec23 w.1 u.1) ?_; rintro v S1 hk1 rfl hl
   refine zg ?_
   exact ⟨rfl, ⟨congrArg some (congrArg (Value.int .i64) (by unfold rn1; rw [h16]; rfl)), rfl, rfl, rfl, trivial⟩, hl⟩
  ·
   refine xp_skip rfl ?_
   exact ⟨rfl, ⟨congrArg some (congrArg (Value.int .i64) (by unfold rn1; rw [h16]; rfl)), rfl, rfl, rfl, trivial⟩, hl⟩
 clear hl; rintro Le3 S1 ⟨hsub3, hl⟩; refine xe_sub hsub3 ?_
 refine xp_seq rfl (xe_cut (fun Le S' => SubE [(5, .int .i64 (rcwE w u)), (4, .int .i64 0)] Le ∧ HoldG S [S] S' [(B3, .cells [.int .i64 u.1, .int .i64 u.2.1, .int .i64 u.2.2] 24 false true []), (B2, .cells [.int .i64 w.1, .int .i64 w.2.1, .int .i64 w.2.2] 24 false true [])] []) ?_ ?_)
 ·
  refine zg ?_
  constructor <;> intro h23
  ·
   refine zg ?_
   refine zc hl rfl (spec23 w.2.2 u.2.2) ?_; rintro v S1 hk1 rfl hl
   refine zg ?_
   exact ⟨rfl, ⟨congrArg some (congrArg (Value.int .i64) (by unfold rcwE; rw [h23]; rfl)), rfl, trivial⟩, hl⟩
  ·
   refine zg ?_
   exact ⟨rfl, ⟨congrArg some (congrArg (Value.int .i64) (by unfold rcwE; rw [h23]; rfl)), rfl, trivial⟩, hl⟩
 clear hl; rintro Le4 S1 ⟨hsub4, hl⟩; refine xe_sub hsub4 ?_
 refine zg ?_
 refine y1 rfl ⟨hl.keep, rfl⟩
end Go.Proofs.YtgiibikieblicaaGreatDoor
namespace Go.Proofs.YtgiibikieblicaaGreatDoor
open Go.Cm Go
set_option maxRecDepth 100000
variable {S : St}
section
variable {D : Den} {t : Ti} {C : List Ev}
theorem on_in {i : Int} (h : KV D C 0) (ht : VTi t) (he : onE C t = i) (hi : 0 ≤ i) : i.toNat < C.length ∧ akC D C i.toNat ≤ kyT D t ∧ (i.toNat + 1 < C.length → kyT D t < akC D C (i.toNat + 1)) ∧ kyT D t < kvE D C 0 := by
 obtain ⟨h1, h2⟩ := on_ok (D := D) ht (C := C) (s := 0) (i := 0) h (Nat.zero_le _)
 by_cases hlt : kyT D t < kvE D C 0
 ·obtain ⟨p, p1, p2, p3, p4⟩ := h1 hlt
  have e : onE C t = ((0 + p : Nat) : Int) := p1
  have : i.toNat = p := by omega
  rw [this]
  exact ⟨p2, p3, p4, hlt⟩
 ·have e : onE C t = -1 := h2 (by omega)
  omega
theorem on_is {p : Nat} (h : KV D C 0) (ht : VTi t) (h1 : p < C.length) (h2 : akC D C p ≤ kyT D t) (h3 : p + 1 < C.length → kyT D t < akC D C (p + 1)) (h4 : kyT D t < kvE D C 0) : onE C t = (p : Int) := by
 obtain ⟨q, q1, q2, q3, q4⟩ := (on_ok (D := D) ht (C := C) (s := 0) (i := 0) h (Nat.zero_le _)).1 h4
 have e : onE C t = ((0 + q : Nat) : Int) := q1
 have : q = p := by
  rcases Nat.lt_trichotomy q p with hl | hl | hl
  ·have h5 := q4 (by omega)
   have h6 : akC D C (q + 1) ≤ akC D C p := by
    rcases Nat.lt_or_ge (q + 1) p with h7 | h7
    ·exact Nat.le_of_lt (ak_lt h h7 h1)
    ·rw [show q + 1 = p by omega]; exact Nat.le_refl _
   omega
  ·exact hl
  ·have h5 := h3 (by omega)
   have h6 : akC D C (p + 1) ≤ akC D C q := by
    rcases Nat.lt_or_ge (p + 1) q with h7 | h7
    ·exact Nat.le_of_lt (ak_lt h h7 q2)
    ·rw [show p + 1 = q by omega]; exact Nat.le_refl _
   omega
 omega
end
theorem rsl_nth {V : List (List Ev)} : ∀ {l : List Ti} {n : Nat} {s : Sl}, (rslG V l).2 = 0 → nth (rslG V l).1 n = some s → ∃ t, nth l n = some t ∧ s.at_ = t ∧ s.ev = V.map (fun C => onE C t)
 | [], n, s, _, h => by cases h
 | [_], n, s, _, h => by cases h
 | t :: u :: r, n, s, h0, h => by
  cases hs : (subE u t).2 != 0 with
  | true =>
   rw [rsl_1 hs] at h
   cases h
  | false =>
   rw [rsl_2 hs] at h h0
   cases n with
   | zero => cases h; exact ⟨t, rfl, rfl, rfl⟩
   | succ n =>
    obtain ⟨t', h1, h2, h3⟩ := rsl_nth (l := u :: r) (n := n) (s := s) h0 h
    exact ⟨t', h1, h2, h3⟩
theorem sn_true {V : List (List Ev)} {L : List Sl} {v n : Nat} (h : (snE V L v n).2 = true) : 0 ≤ evI L n v ∧ snE V L v n = (evAt V v (evI L n v), true) := by
 cases hb : snB V L v n with
 | true => rw [sn_1 hb] at h; cases h
 | false =>
  refine ⟨?_, sn_2 hb⟩
  unfold snB at hb
  rw [Bool.or_eq_false_iff] at hb
  have := of_decide_eq_false hb.1
  omega
theorem sls_rsl {V : List (List Ev)} (h : ((slsE V).2 != 0) = false) : (slsE V).1 = (rslG V (rmG V [])).1 ∧ (rslG V (rmG V [])).2 = 0 ∧ ∀ v, v ∈ V → (evE v).1 = 0 := by
 have h1 := sls_e h
 have h0 : (acE V).1 = 0 := by simpa using h1
 refine ⟨?_, ?_, ?_⟩
 ·rw [← rsls_eq] at h ⊢
  unfold rslsE at h ⊢
  rw [h1] at h ⊢
  cases h2 : (rslG V (rmG V [])).2 != 0 with
  | true => rw [h2] at h; rw [cond_false, cond_true] at h; rw [h2] at h; cases h
  | false => rfl
 ·rw [← rsls_eq] at h
  unfold rslsE at h
  rw [h1] at h
  cases h2 : (rslG V (rmG V [])).2 != 0 with
  | true => rw [h2] at h; rw [cond_false, cond_true] at h; rw [h2] at h; cases h
  | false => simpa using h2
 ·cases h2 : decide ((V.length : Int) > 8) with
  | true => rw [ac_1 h2] at h0; cases h0
  | false => rw [ac_2 h2] at h0; exact ac_all h0
theorem mv_at {V : List (List Ev)} (h : ((slsE V).2 != 0) = false) {v n : Nat} (hv : v < V.length) (hn : n < (slsE V).1.length) (hn1 : 1 ≤ n) (hA : (snE V (slsE V).1 v (n - 1)).2 = true) (hB : (snE V (slsE V).1 v n).2 = true) :
  (evI (slsE V).1 n v == evI (slsE V).1 (n - 1) v) = !decide ((snE V (slsE V).1 v n).1.at_ = atL (slsE V).1 n) := by
 obtain ⟨hL, h0, hV⟩ := sls_rsl h
 obtain ⟨a1, a2⟩ := sn_true hA
 obtain ⟨b1, b2⟩ := sn_true hB
 obtain ⟨x, hx⟩ := nth_some hv
 obtain ⟨s, hs⟩ := nth_some hn
 obtain ⟨s', hs'⟩ := nth_some (l := (slsE V).1) (i := n - 1) (by omega)
 have ht := rsl_nth h0 (hL ▸ hs)
 have ht' := rsl_nth h0 (hL ▸ hs')
 obtain ⟨t, t1, t2, t3⟩ := ht
 obtain ⟨t', u1, u2, u3⟩ := ht'
 have e1 : evI (slsE V).1 n v = onE x t := evI_at hs (by rw [t3]; exact nth_map _ hx)
 have e2 : evI (slsE V).1 (n - 1) v = onE x t' := evI_at hs' (by rw [u3]; exact nth_map _ hx)
 rw [e1] at b1
 rw [e2] at a1
 rw [b2, atL_at hs, t2, e1, e2]
 show (onE x t == onE x t') = !decide ((evAt V v (onE x t)).at_ = t)
 obtain ⟨D⟩ := den_ex
 have hk := (ev_kv (D := D) (hV x (nth_mem hx))).1
 obtain ⟨m1, m2, m3⟩ := rm_key (D := D) V [] hV (fun _ h => (List.not_mem_nil h).elim) List.Pairwise.nil
 have vt : VTi t := m1 t (nth_mem t1)
 have vt' : VTi t' := m1 t' (nth_mem u1)
 have hlt : kyT D t' < kyT D t := asc_nth m2 (show n - 1 < n by omega) (nth_map (kyT D) u1) (nth_map (kyT D) t1)
 obtain ⟨i1, i2, i3, i4⟩ := on_in hk vt rfl b1
 obtain ⟨j1, j2, j3, j4⟩ := on_in hk vt' rfl a1
 obtain ⟨y, hy⟩ := nth_some i1
 have ey : evAt V v (onE x t) = y := evAt_at hx hy
 have ea : atT x (onE x t).toNat = y.at_ := by unfold atT; rw [hy]; rfl
 rw [ey]
 have hak := ak_nth hk i1
 have hka : akC D x (onE x t).toNat = kyT D y.at_ := by unfold akC; rw [ea]
 by_cases hat : y.at_ = t
 ·rw [decide_eq_true hat]
  show (onE x t == onE x t') = false
  rw [beq_eq_false_iff_ne]
  intro e
  rw [← e, hka, hat] at j2
  omega
 ·rw [decide_eq_false hat]
  show (onE x t == onE x t') = true
  rw [beq_iff_eq]
  have hne : akC D x (onE x t).toNat ≠ kyT D t := fun e => hat (by
   rw [hka] at e
   have hva := hak.2
   rw [ea] at hva
   exact ky_inj hva vt e)
  have hmem : akC D x (onE x t).toNat ∈ kyL D (rmG V []) := (m3 _).2 (.inr ⟨x, nth_mem hx, kmV_mem.2 ⟨by omega, .inl (nth_mem hak.1)⟩⟩)
  obtain ⟨k, hkk⟩ := mem_nth hmem
  have hkn : k < n := by
   rcases Nat.lt_or_ge k n with h5 | h5
   ·exact h5
   ·rcases Nat.lt_or_ge n k with h6 | h6
    ·have := asc_nth m2 h6 (nth_map (kyT D) t1) hkk
     omega
    ·have : k = n := by omega
     subst this
     rw [nth_map (kyT D) t1] at hkk
     exact absurd (Option.some.inj hkk).symm hne
  have hle : akC D x (onE x t).toNat ≤ kyT D t' := by
   rcases Nat.lt_or_ge k (n - 1) with h6 | h6
   ·exact Nat.le_of_lt (asc_nth m2 h6 hkk (nth_map (kyT D) u1))
   ·have : k = n - 1 := by omega
    subst this
    rw [nth_map (kyT D) u1] at hkk
    exact Nat.le_of_eq (Option.some.inj hkk).symm
  have := on_is hk vt' i1 hle (fun hl => Nat.lt_trans hlt (i3 hl)) (Nat.lt_trans hlt i4)
  omega
theorem rmv_mv {V : List (List Ev)} (h : ((slsE V).2 != 0) = false) (v n : Nat) (hv : v < V.length) (hn : n < (slsE V).1.length) : rmvP V (slsE V).1 v n = mvP V (slsE V).1 v n := by
 cases hn1 : decide ((n : Int) < 1) with
 | true => rw [mvP_1 hn1]; exact rmv_1 (by unfold rmvB; rw [hn1]; rfl)
 | false =>
  have hn2 : 1 ≤ n := by have := of_decide_eq_false hn1; omega
  have hat := fun hA hB => mv_at h hv hn hn2 hA hB
  unfold rmvP mvP rmvB mvB rsoB
  rw [hn1]
  cases hA : (snE V (slsE V).1 v (n - 1)).2 with
  | false => cases evI (slsE V).1 n v == evI (slsE V).1 (n - 1) v <;> rfl
  | true =>
   cases hB : (snE V (slsE V).1 v n).2 with
   | false => cases evI (slsE V).1 n v == evI (slsE V).1 (n - 1) v <;> rfl
   | true =>
    rw [hat hA hB]
    cases decide ((snE V (slsE V).1 v n).1.at_ = atL (slsE V).1 n) <;> rfl
theorem rmv_all {V : List (List Ev)} (v n : Nat) (hv : v < V.length) (hn : n < (slsE V).1.length) : rmvP V (slsE V).1 v n = mvP V (slsE V).1 v n := by
 cases h : (slsE V).2 != 0 with
 | false => exact rmv_mv h v n hv hn
 | true =>
  have e : (slsE V).1 = [] := by
   unfold slsE at h ⊢
   cases h1 : (acE V).1 != 0 with
   | true => rfl
   | false =>
    rw [h1] at h
    cases h2 : (slE V).2 != 0 with
    | true => rfl
    | false => rw [h2] at h; cases h
  rw [e] at hn
  cases hn
end Go.Proofs.YtgiibikieblicaaGreatDoor
namespace Go.Proofs.YtgiibikieblicaaGreatDoor
open Go.Cm Go
set_option maxRecDepth 100000
variable {S : St}
theorem clI_asc {low x : Pt} {a : Nat} : ∀ (r : List Pt) (b : Nat), (clI low x a r b).Pairwise (fun c d => c.b < d.b)
 | [], _ => List.Pairwise.nil
 | y :: r, b => by
  have h := clI_asc (low := low) (x := x) (a := a) r (b + 1)
  cases h1 : decide ((b : Int) ≤ (a : Int)) with
  | true => rw [clI_1 h1]; exact h
  | false =>
   cases h2 : clB low x y with
   | true =>
    rw [clI_2 h1 h2]
    refine List.pairwise_cons.2 ⟨fun d hd => ?_, h⟩
    have := (clI_bd r (b + 1) d hd).2.1
    show (b : Int) < d.b
    omega
   | false => rw [clI_3 h1 h2]; exact h
def CLt (c d : Cl) : Prop := c.a < d.a ∨ (c.a = d.a ∧ c.b < d.b)
theorem clO_asc {low : Pt} {C : List Pt} : ∀ (r : List Pt) (a : Nat), (clO low C r a).Pairwise CLt
 | [], _ => List.Pairwise.nil
 | x :: r, a => by
  rw [clO_step]
  refine List.pairwise_append.2 ⟨?_, clO_asc r (a + 1), fun c hc d hd => ?_⟩
  ·refine (clI_asc (low := low) (x := x) (a := a) C 0).imp_of_mem fun {c d} hc hd h => .inr ⟨?_, h⟩
   rw [(clI_bd C 0 c hc).1, (clI_bd C 0 d hd).1]
  ·refine .inl ?_
   have h1 := (clI_bd C 0 c hc).1
   have h2 := (clO_bd r (a + 1) d hd).1.1
   omega
theorem chI_asc {V : List (List Ev)} {L : List Sl} {n : Nat} : ∀ f v : Nat, ((chI V L n f v).map (·.1)).Pairwise (· < ·) ∧ ∀ i, i ∈ (chI V L n f v).map (·.1) → (v : Int) ≤ i
 | 0, _ => ⟨List.Pairwise.nil, fun _ h => (List.not_mem_nil h).elim⟩
 | f + 1, v => by
  obtain ⟨h1, h2⟩ := chI_asc (V := V) (L := L) (n := n) f (v + 1)
  cases hc : chB V L n v with
  | false => rw [ch_2 hc]; exact ⟨h1, fun i hi => by have := h2 i hi; omega⟩
  | true =>
   rw [ch_1 hc, List.map_cons]
   refine ⟨List.pairwise_cons.2 ⟨fun i hi => ?_, h1⟩, fun i hi => ?_⟩
   ·have := h2 i hi
    show (v : Int) < i
    omega
   ·rcases List.mem_cons.1 hi with rfl | hi
    ·exact Int.le_refl _
    ·have := h2 i hi; omega
theorem asc_inj : ∀ {W : List Int} {i j : Nat} {x y : Int}, W.Pairwise (· < ·) → nth W i = some x → nth W j = some y → i < j → x < y
 | [], _, _, _, _, _, h, _, _ => by cases h
 | w :: r, 0, 0, _, _, _, _, _, h => absurd h (Nat.lt_irrefl 0)
 | w :: r, 0, j + 1, x, y, hp, h1, h2, _ => by
  cases h1
  exact (List.pairwise_cons.1 hp).1 y (nth_mem h2)
 | w :: r, i + 1, 0, _, _, _, _, _, h => absurd h (Nat.not_lt_zero _)
 | w :: r, i + 1, j + 1, x, y, hp, h1, h2, h => asc_inj (List.pairwise_cons.1 hp).2 h1 h2 (Nat.lt_of_succ_lt_succ h)
def wK (W : List Int) (c : Cl) : Int × Int := ((nth W c.a.toNat).getD 0, (nth W c.b.toNat).getD 0)
theorem rx_key {W : List Int} {a b : Int} {c : Cl} : rxB W a b c = decide ((a, b) = wK W c) := by
 unfold rxB wK
 rw [Bool.eq_iff_iff, Bool.and_eq_true, beq_iff_eq, beq_iff_eq, decide_eq_true_iff, Prod.mk.injEq]
 exact ⟨fun h => ⟨h.1.symm, h.2.symm⟩, fun h => ⟨h.1.symm, h.2.symm⟩⟩
theorem pdG_get {W : List Int} {a b : Int} : ∀ (K : List Cl) (D : PD), K.Pairwise (fun c d => wK W c ≠ wK W d) → lkI (pdG W K D) (a, b) = bif K.any (rxB W a b) then rcF W a b K else lkI D (a, b)
 | [], _, _ => rfl
 | c :: r, D, hp => by
  obtain ⟨h1, h2⟩ := List.pairwise_cons.1 hp
  show lkI (pdG W r (putI D (wK W c) c.k)) (a, b) = _
  rw [pdG_get r _ h2, lkI_put, List.any_cons]
  cases hc : rxB W a b c with
  | true =>
   rw [rcF_1 hc]
   have he : (a, b) = wK W c := by rw [rx_key] at hc; exact of_decide_eq_true hc
   have hn : r.any (rxB W a b) = false := by
    rw [List.any_eq_false]
    intro d hd
    rw [rx_key, he]
    simpa using h1 d hd
   rw [hn, if_pos he]; rfl
  | false =>
   rw [rcF_2 hc]
   have he : (a, b) ≠ wK W c := by rw [rx_key] at hc; exact of_decide_eq_false hc
   rw [if_neg he]; rfl
theorem rcF_none {W : List Int} {a b : Int} : ∀ (K : List Cl), K.any (rxB W a b) = false → rcF W a b K = 0
 | [], _ => rfl
 | c :: r, h => by
  rw [List.any_cons, Bool.or_eq_false_iff] at h
  rw [rcF_2 h.1, rcF_none r h.2]
theorem chk_ok : ∀ {C : List Pt}, C.length ≤ 8 → (∀ p, p ∈ C → pB p = false) → chkE C = 0 := by
 intro C h1 h2
 rw [chk_2 (by simp; omega)]
 clear h1
 induction C with
 | nil => rfl
 | cons p r ih => rw [fstP_go (by rw [pE_2 (h2 p (List.mem_cons_self ..))]; rfl), ih fun q hq => h2 q (List.mem_cons_of_mem _ hq)]
theorem rcl_pd {V : List (List Ev)} {L : List Sl} {n : Nat} {a b : Int} (hV : V.length ≤ 8) (hp : PVl V) : lkI (pdE V L n) (a, b) = rclE V L n a b := by
 have hC8 : ((chE V L n).map (·.2)).length ≤ 8 := by rw [List.length_map]; exact Nat.le_trans (ch_len V.length 0) hV
 have hcv : ∀ p, p ∈ (chE V L n).map (·.2) → pB p = false := fun p h => ch_pv hp V.length 0 p h
 have hWl : ((chE V L n).map (·.1)).length = ((chE V L n).map (·.2)).length := by rw [List.length_map, List.length_map]
 have hW := (chI_asc (V := V) (L := L) (n := n) V.length 0).1
 have hW : ((chE V L n).map (·.1)).Pairwise (· < ·) := hW
 unfold pdE rclE
 generalize (chE V L n).map (·.1) = W at *
 generalize (chE V L n).map (·.2) = C at *
 rw [cls_2 (by rw [chk_ok hC8 hcv]; rfl)]
 show lkI (pdG W (clE C) []) (a, b) = rcF W a b (clE C)
 have hpw : (clE C).Pairwise (fun c d => wK W c ≠ wK W d) := by
  refine (clO_asc (low := (nth C (bsE C)).getD p0) (C := C) C 0).imp_of_mem fun {c d} hc hd hlt => ?_
  obtain ⟨⟨c1, c2⟩, c3, c4⟩ := clO_bd C 0 c hc
  obtain ⟨⟨d1, d2⟩, d3, d4⟩ := clO_bd C 0 d hd
  obtain ⟨ca, hca⟩ := nth_some (l := W) (i := c.a.toNat) (by omega)
  obtain ⟨cb, hcb⟩ := nth_some (l := W) (i := c.b.toNat) (by omega)
  obtain ⟨da, hda⟩ := nth_some (l := W) (i := d.a.toNat) (by omega)
  obtain ⟨db, hdb⟩ := nth_some (l := W) (i := d.b.toNat) (by omega)
  unfold wK
  rw [hca, hcb, hda, hdb]
  intro e
  injection e with e1 e2
  have e1 : ca = da := e1
  have e2 : cb = db := e2
  rcases hlt with hl | ⟨_, hl⟩
  ·have := asc_inj hW hca hda (by omega); omega
  ·have := asc_inj hW hcb hdb (by omega); omega
 rw [pdG_get (clE C) [] hpw]
 cases h : (clE C).any (rxB W a b) with
 | true => rfl
 | false => rw [rcF_none _ h]; rfl
theorem clK_rcl {V : List (List Ev)} {L : List Sl} {n a b : Nat} (hV : V.length ≤ 8) (hp : PVl V) (hn : n < L.length) : clK (ksE V L) n a b = rclM V L n a b := by
 obtain ⟨D, hD⟩ := nth_some (l := ksE V L) (i := n) (by unfold ksE; rw [List.length_map, List.length_range]; exact hn)
 rw [clK_at hD, ks_at hD, rcl_pd hV hp]
 rfl
theorem rclM_lt {V : List (List Ev)} {L : List Sl} {n a b : Nat} (h : a < b) : rclM V L n a b = rclE V L n (a : Int) (b : Int) := by
 unfold rclM minI maxI
 rw [if_neg (by omega), if_pos (by omega)]
end Go.Proofs.YtgiibikieblicaaGreatDoor
namespace Go.Proofs.YtgiibikieblicaaGreatDoor
open Go.Cm Go
set_option maxRecDepth 100000
variable {S : St}
section
variable {V : List (List Ev)} {L : List Sl} {v n : Nat} {i : Int}
theorem bt_eq (hp : PVl V) (h : spB V v i = false) : btS V v i = btR V v i := by
 unfold spB at h
 rw [Bool.or_eq_false_iff, Bool.or_eq_false_iff] at h
 have h1 := pv_at hp h.1.2
 have h2 := pv_at hp h.2
 unfold btS btR
 rw [btw_2 (fstP_ok h1 h2), numE_ok h1, numE_ok h2]
 rfl
def f1 (a : Int) : Int := bif oneB a then a else 0
theorem stp_rs (hp : PVl V) : stpE V v i = f1 (rsE V v i) := by
 cases h : spB V v i with
 | true => rw [stp_1 h, rs_y h]; rfl
 | false =>
  rw [rs_n h, ← bt_eq hp h]
  unfold stpE
  rw [h]
  rfl
theorem f1_ne (a : Int) : (f1 a != 0) = oneB a := by
 unfold f1
 cases h : oneB a with
 | true => show (a != 0) = true; simpa using one_ne h
 | false => rfl
theorem f1_eq {a b : Int} (ha : oneB a = true) : (f1 b == f1 a) = (a == b) := by
 have e : f1 a = a := by unfold f1; rw [ha]; rfl
 rw [e]
 unfold f1
 cases hb : oneB b with
 | true => show (b == a) = (a == b); rw [Bool.eq_iff_iff, beq_iff_eq, beq_iff_eq]; exact eq_comm
 | false =>
  show ((0 : Int) == a) = (a == b)
  rw [show (a == b) = false from beq_eq_false_iff_ne.2 fun e => by rw [← e, ha] at hb; cases hb]
  exact beq_eq_false_iff_ne.2 fun e => one_ne ha e.symm
theorem pa_eq (hp : PVl V) : rpaB V v i = paB V v i := by
 unfold rpaB paB
 rw [stp_rs hp, stp_rs hp, f1_ne]
 cases ha : oneB (rsE V v (i - 1)) with
 | false => cases shB (evAt V v i) <;> rfl
 | true => rw [f1_eq ha]
theorem tu_eq (hp : PVl V) : rtuB V v i = tuB V v i := by
 unfold rtuB tuB
 rw [stp_rs hp, f1_ne]
theorem f1_m (a : Int) : (f1 a != -1) = (a != -1) := by
 unfold f1
 cases h : oneB a with
 | true => rfl
 | false =>
  show ((0 : Int) != -1) = (a != -1)
  have : a ≠ -1 := by rintro rfl; cases h
  rw [bne_iff_ne.2 this]
  rfl
end
section
variable {V : List (List Ev)} {L : List Sl} {n mv hh a b : Nat} {i k : Int}
theorem ss_eq (hV : V.length ≤ 8) (hp : PVl V) (hn : n < L.length) : rssB V L n mv hh = susB V L (ksE V L) n mv hh (evI L n hh) := by
 unfold rssB susB
 rw [stp_rs hp, f1_m, clK_rcl hV hp (by omega)]
theorem sg_eq (hV : V.length ≤ 8) (hp : PVl V) : ∀ (f n : Nat), n + f ≤ L.length → rsuG V L mv hh i k f n = suG L (ksE V L) mv hh i k f n
 | 0, _, _ => rfl
 | f + 1, n, h => by
  rw [rsuG, suG, sg_eq hV hp f (n + 1) (by omega), clK_rcl hV hp (by omega)]
theorem su_eq (hV : V.length ≤ 8) (hp : PVl V) (hn : n < L.length) : rsuE V L n mv hh = suE V L (ksE V L) n mv hh (evI L n mv) (evI L n hh) := by
 unfold rsuE suE
 rw [ss_eq hV hp hn, sg_eq hV hp _ _ (by omega)]
theorem trT_eq (hV : V.length ≤ 8) (hp : PVl V) (hn : n < L.length) : rtrT V L n mv hh = trT V L (ksE V L) n mv hh := by
 unfold rtrT trT
 rw [pa_eq hp, tu_eq hp, su_eq hV hp hn]
theorem trE_eq (hV : V.length ≤ 8) (hp : PVl V) (hn : n < L.length) : rtrE V L n a b = trE V L (ksE V L) n a b := by
 unfold rtrE trE
 rw [trT_eq hV hp hn, trT_eq hV hp hn]
end
def PosD (D : MD) : Prop := ∀ p, p ∈ D → 0 < p.2
theorem has_lk : ∀ {D : MD} (k : Mt4), PosD D → hasK D k = decide (lkI D k > 0)
 | [], _, _ => rfl
 | (a, w) :: r, k, h => by
  unfold hasK lkI
  by_cases he : k = a
  ·rw [if_pos he, if_pos he, decide_eq_true (h _ (List.mem_cons_self ..))]
  ·rw [if_neg he, if_neg he, has_lk k fun p hp => h p (List.mem_cons_of_mem _ hp)]
theorem put_pos : ∀ {D : MD} {k : Mt4} {w : Int}, PosD D → 0 < w → PosD (putI D k w)
 | [], k, w, _, hw => fun p hp => by rw [List.mem_singleton.1 hp]; exact hw
 | (a, u) :: r, k, w, h, hw => by
  unfold putI
  by_cases he : k = a
  ·rw [if_pos he]
   intro p hp
   rcases List.mem_cons.1 hp with rfl | hp
   ·exact hw
   ·exact h p (List.mem_cons_of_mem _ hp)
  ·rw [if_neg he]
   intro p hp
   rcases List.mem_cons.1 hp with rfl | hp
   ·exact h _ (List.mem_cons_self ..)
   ·exact put_pos (fun p hp => h p (List.mem_cons_of_mem _ hp)) hw p hp
section
variable {V : List (List Ev)} {L : List Sl} {n a b : Nat}
theorem alS_eq (hV : V.length ≤ 8) (hp : PVl V) (hn : n < L.length) (hab : a < b) {q : MD × List Ds} (hq : PosD q.1) : ralS V L n a b q = alS V L (ksE V L) n a b q ∧ PosD (alS V L (ksE V L) n a b q).1 := by
 obtain ⟨D, O⟩ := q
 have hk : clK (ksE V L) n a b = rclE V L n (a : Int) (b : Int) := by rw [clK_rcl hV hp hn, rclM_lt hab]
 have hs : rskB V L n a b D = skB L (ksE V L) n a b D := by
  unfold rskB skB
  rw [hk, has_lk _ hq]
 cases h : skB L (ksE V L) n a b D with
 | true => rw [ralS_1 (hs.trans h), alS_1 h]; exact ⟨rfl, hq⟩
 | false =>
  rw [ralS_2 (hs.trans h), alS_2 h, hk, trE_eq hV hp hn]
  exact ⟨rfl, put_pos hq (by omega)⟩
theorem alB_eq (hV : V.length ≤ 8) (hp : PVl V) (hn : n < L.length) : ∀ (f b : Nat) (q : MD × List Ds), a < b → PosD q.1 → ralB V L n a f b q = alB V L (ksE V L) n a f b q ∧ PosD (alB V L (ksE V L) n a f b q).1
 | 0, _, _, _, hq => ⟨rfl, hq⟩
 | f + 1, b, q, hab, hq => by
  obtain ⟨h1, h2⟩ := alS_eq hV hp hn hab hq
  rw [ralB, alB, h1]
  exact alB_eq hV hp hn f (b + 1) _ (by omega) h2
theorem alA_eq (hV : V.length ≤ 8) (hp : PVl V) (hn : n < L.length) : ∀ (f a : Nat) (q : MD × List Ds), PosD q.1 → ralA V L n f a q = alA V L (ksE V L) n f a q ∧ PosD (alA V L (ksE V L) n f a q).1
 | 0, _, _, hq => ⟨rfl, hq⟩
 | f + 1, a, q, hq => by
  obtain ⟨h1, h2⟩ := alB_eq (a := a) hV hp hn (V.length - (a + 1)) (a + 1) q (by omega) hq
  rw [ralA, alA, h1]
  exact alA_eq hV hp hn f (a + 1) _ h2
theorem alL_eq (hV : V.length ≤ 8) (hp : PVl V) : ∀ (f n : Nat) (q : MD × List Ds), n + f ≤ L.length → PosD q.1 → ralL V L f n q = alL V L (ksE V L) f n q
 | 0, _, _, _, _ => rfl
 | f + 1, n, q, hn, hq => by
  obtain ⟨h1, h2⟩ := alA_eq hV hp (show n < L.length by omega) V.length 0 q hq
  rw [ralL, alL, h1]
  exact alL_eq hV hp f (n + 1) _ (by omega) h2
theorem rds_eq (hV : V.length ≤ 8) (hp : PVl V) : rdsE V L = dsE V L (ksE V L) := by
 unfold rdsE dsE
 rw [alL_eq hV hp L.length 0 ([], []) (by omega) (fun _ h => (List.not_mem_nil h).elim)]
end
theorem rdsA_eq (V : List (List Ev)) : rdsA V = dsA V := by
 cases h : (slsE V).2 != 0 with
 | true => rw [rdsA_1 h, dsA_1 h]
 | false => rw [rdsA_2 h, dsA_2 h, rds_eq (ac_ok (sls_e h)).1 (pv_of h)]
theorem rof_eq (V : List (List Ev)) : rofE V = ofE V := by
 unfold rofE ofE rcnE cnE
 rw [rdsA_eq]
end Go.Proofs.YtgiibikieblicaaGreatDoor
namespace Go.Proofs.YtgiibikieblicaaGreatDoor
open Go.Cm Go
set_option maxRecDepth 100000
variable {S : St}
theorem nth_push {α : Type} : ∀ {l : List α} {x w : α} {k : Nat}, nth (l ++ [x]) k = some w → nth l k = some w ∨ (k = l.length ∧ w = x)
 | [], x, w, 0, h => .inr ⟨rfl, (Option.some.inj h).symm⟩
 | [], x, w, k + 1, h => by cases h
 | y :: l, x, w, 0, h => .inl h
 | y :: l, x, w, k + 1, h => (nth_push (l := l) h).imp id fun h => ⟨congrArg (· + 1) h.1, h.2⟩
theorem cc_known {P : Program} {K : Known} {f : FuncId} {args : List Value} {S : St} {v : Value} (h : K.call f args S = some v) : CC P K f args S fun w S' => Keep S S' ∧ w = v := ⟨0, v, S, by unfold enterF; rw [h], Keep.refl S, rfl⟩
theorem eqWt (s r : Int × Int × Int) : eqV Tryz.prog eqDepth 24 (wtV s) (wtV r) = some (decide (s = r)) := by
 have h : eqV Tryz.prog 40 24 (aggL [.int .i64 s.1, .int .i64 s.2.1, .int .i64 s.2.2]) (aggL [.int .i64 r.1, .int .i64 r.2.1, .int .i64 r.2.2]) = _ := eq_struct Tryz.underlying24 (by kernel_rfl) (eqFields_cons (by kernel_rfl) (part1 (by kernel_rfl) rfl) (part1 (by kernel_rfl) rfl) (eq_int Tryz.underlying3) (eqFields_cons (by kernel_rfl) (part1 (by kernel_rfl) rfl) (part1 (by kernel_rfl) rfl) (eq_int Tryz.underlying3) (eqFields_cons (by kernel_rfl) (part1 (by kernel_rfl) rfl) (part1 (by kernel_rfl) rfl) (eq_int Tryz.underlying3) rfl)))
 refine h.trans (congrArg some ?_)
 obtain ⟨s1, s2, s3⟩ := s
 obtain ⟨r1, r2, r3⟩ := r
 rw [Bool.eq_iff_iff]
 simp
theorem neWt (xo yo : Operand) (s r : Int × Int × Int) : binV Tryz.prog .neq 24 xo yo (wtV s) (wtV r) = some (.bool (!decide (s = r))) := bin_ne (by kernel_rfl) (eqWt s r)
theorem big_ok {V : List (List Ev)} (h : bigB V = false) : V.length ≤ 10 ∧ ∀ x, x ∈ V → x.length ≤ 16 := by
 unfold bigB at h
 rw [Bool.or_eq_false_iff, List.any_eq_false] at h
 have h1 := of_decide_eq_false h.1
 refine ⟨by omega, fun x hx => ?_⟩
 have h2 := h.2 x hx
 simp at h2
 omega
noncomputable def cd3 : Code := Tryz.f3.body.getD .skip
theorem spec3 (a : Option Addr) (cap : Nat) (V : List (List Ev)) (w u : Int × Int × Int) (hF : Fresh S) (hG : Gl S) (hv : Vs S (.slice a V.length cap) V) (hw : W64 w) (hu : W64 u) : CC Tryz.prog KK 3 [.slice a V.length cap, wtV w, wtV u] S (fun v S' => Keep S S' ∧ v = .bool true) := by
 refine cc_enter (c := cd3) (n := 75) Tryz.func3 rfl rfl rfl (by kernel_rfl) rfl rfl ?_
 have hl := Hold.start S
 refine zg ?_; refine re_boxL hl rfl rfl rfl rfl rfl rfl ?_; intro B4 S4 hl; refine re_boxL hl rfl rfl rfl rfl rfl rfl ?_; intro B5 S5 hl; refine zg ?_
 refine zc hl rfl (spec4 a cap V (hv.move (hl.since 0 rfl))) ?_; rintro v S1 hk1 rfl hl
 refine zg ?_
 constructor <;> intro h15
 ·
  refine zg ?_
  refine zc hl rfl (cc_known rfl) ?_; rintro v S1 hk1 rfl hl
  refine zg ?_
  exact (z1 rfl ⟨hl.keep, rfl⟩)
 ·
  obtain ⟨hn, hV⟩ := big_ok h15
  refine xp_skip rfl ?_; refine zS ?_; refine xp_seq rfl ?_; refine zS ?_; refine xp_block rfl ?_
  -- LOOP
  have hl := hl.addG (g := gOf 27 1 (fun w => [w]) (.slice none ([] : List Value).length ([] : List Value).length) ([] : List Value)) (.inl ⟨rfl, rfl, rfl⟩)
  refine xe_sub (L' := [(8, .int .i64 0), (7, .slice none ([] : List Value).length ([] : List Value).length), (6, .bool false), (5, ptrTo B5 0), (4, ptrTo B4 0), (0, .slice a V.length cap)]) ⟨rfl, rfl, rfl, rfl, rfl, rfl, trivial⟩ ?_
  refine xp_loop rfl (fun m Le S' => ∃ (i : Nat) (ws : List Value) (ax : Option Addr), i ≤ V.length ∧ m = V.length - i ∧ ws.length = i ∧ (∀ k w z, nth ws k = some w → nth V k = some z → Evs S' w z) ∧ SubE [(8, .int .i64 (i : Int)), (7, .slice ax ws.length ws.length), (6, .bool false), (5, ptrTo B5 0), (4, ptrTo B4 0), (0, .slice a V.length cap)] Le ∧ HoldG S [S] S' [(B5, .cells [.int .i64 u.1, .int .i64 u.2.1, .int .i64 u.2.2] 24 false true []), (B4, .cells [.int .i64 w.1, .int .i64 w.2.1, .int .i64 w.2.2] 24 false true [])] [gOf 27 1 (fun w => [w]) (.slice ax ws.length ws.length) ws]) ?_ (m := V.length) ⟨0, [], none, by omega, rfl, rfl, fun k w x h => (by cases h), ⟨rfl, rfl, rfl, rfl, rfl, rfl, trivial⟩, hl⟩
  clear hl; rintro m Le T0 ⟨i, ws, ax, hi, rfl, hws, hfa, hsub, hl⟩; refine xe_sub hsub ?_
  refine zg ?_
  constructor <;> intro h20
  ·
   have hlt : i < V.length := by have := of_decide_eq_true h20; omega
   obtain ⟨x, hx⟩ := nth_some hlt
   obtain ⟨b1, o1, cs1, aw, cw, ha, _, hrow, htk, hvx⟩ := hv.elem hx
   have hx16 := hV x (nth_mem hx)
   have hl := hl.mark
   refine zg ?_
   refine zc hl rfl (spec6 aw cw x (by omega) (hvx.move (hl.since 1 rfl))) ?_; rintro v T1 hk1 ⟨ay, rfl, hgy⟩ hl; have hl := hl.mark; have hy := Grow.ls (f := Ev.cells) (z := 10) (fun _ => rfl) hgy
   refine re_buildSliceR hl rfl rfl rfl rfl rfl Tryz.underlying22 rfl (c := [(.slice ay x.length x.length)]) (by kernel_rfl) ?_; intro B29 S1 hr29 hl; refine re_appendG hl 0 rfl rfl (by simp) rfl rfl rfl rfl rfl rfl rfl Tryz.underlying22 Tryz.underlying22 rfl rfl (by kernel_rfl) (src_row (new := [(.slice ay x.length x.length)]) hr29 rfl) rfl rfl (by kernel_rfl) (by show ws.length + 1 ≤ maxNeed; unfold maxNeed; omega) ?_; intro v30 S1 hl
   obtain ⟨ax2, rfl⟩ : ∃ x, v30 = .slice x (ws.length + 1) (ws.length + 1) := Grow.is (hl.gr _ (List.mem_cons_self ..))
   refine zg ?_
   have hfa2 : (∀ k w z, nth (ws ++ [(.slice ay x.length x.length)]) k = some w → nth V k = some z → Evs S1 w z) := fun k w y h1 h2 => by
    rcases nth_push h1 with h1 | ⟨h1, rfl⟩
    ·exact (hfa k w y h1 h2).move (hl.since 1 rfl)
    ·have hki : k = i := by omega
     subst hki
     rw [hx] at h2
     cases h2
     exact hy.move (hl.since 0 rfl)
   refine ⟨V.length - (i + 1), by omega, i + 1, ws ++ [(.slice ay x.length x.length)], ax2, by omega, rfl, by rw [List.length_append, hws]; rfl, fun k w y h1 h2 => hfa2 k w y h1 h2, ⟨rfl, congrArg some (congrArg (fun n => Value.slice ax2 n n) (by rw [List.length_append]; rfl)), rfl, rfl, rfl, rfl, trivial⟩, ?_⟩
   rw [gOf_push]
   exact HoldG.unmark (HoldG.unmark hl)
  ·
   have hwl : ws.length = V.length := by have := of_decide_eq_false h20; omega
   have hX : Vs T0 (.slice ax ws.length ws.length) V := ⟨ws, Grow.ls (fun _ => rfl) (hl.gr _ (List.mem_cons_self ..)), hwl, hfa⟩
   have hl := HoldG.shrink (gs' := []) hl.mark (List.Sublist.refl _) (fun g h => (List.not_mem_nil h).elim) (fun T h => h)
   rw [hwl] at hX ⊢
   refine zg ?_
   refine zc hl rfl (spec7 ax V.length V (hl.keep.3 hF) (hG.keep hl.keep) (hX.move (hl.since 0 rfl))) ?_; rintro v S1 hk1 rfl hl
   refine zg ?_; refine re_allocL hl rfl rfl rfl rfl rfl (z := [.int .i64 0, .int .i64 0, .int .i64 0]) (by kernel_rfl) ?_; intro B9 S9 hl; refine re_storeL hl 0 rfl rfl rfl rfl rfl rfl rfl (by kernel_rfl) rfl ?_; intro S1 hl; refine zg ?_
   refine zc hl rfl (spec8 a cap V (hl.keep.3 hF) (hv.move (hl.since 1 rfl)) rmv_all) ?_; rintro v S1 hk1 rfl hl; rw [rof_eq V]
   refine zg ?_; refine re_allocL hl rfl rfl rfl rfl rfl (z := [.int .i64 0, .int .i64 0, .int .i64 0]) (by kernel_rfl) ?_; intro B11 S11 hl; refine re_storeL hl 0 rfl rfl rfl rfl rfl rfl rfl (by kernel_rfl) rfl ?_; intro S1 hl; refine zA ?_; refine xp_seq rfl ?_; refine xp_seq rfl (xe_toE hl 57 (.bool false) ?_ rfl ?_)
   ·
    refine xp_draw (idx := [0, 1, 2, 3, 4, 5, 6, 7, 8, 9, 10, 12, 13, 11, 14, 15, 16]) rfl (by kernel_rfl) (by kernel_rfl) ?_; refine zg ?_; refine pr rfl (rd_bin rfl rfl rfl (neWt _ _ (ofE V).1 (ofE V).1)) ?_; refine zg ?_; refine rp_bool (d := 44) rfl (fun h44 => ?_) (fun h44 => ?_)
    ·
     refine zg ?_
     exact ⟨rfl, bl (absurd h44 (by simp)), sB, hl⟩
    ·
     refine zg ?_; refine rp_bool (d := 49) rfl (fun h49 => ?_) (fun h49 => ?_)
     ·
      refine zg ?_
      exact ⟨rfl, bl (absurd h49 (by simp)), sB, hl⟩
     ·
      refine zg ?_
      refine zp hl rfl (spec9 w u (hl.keep.3 hF) hw hu) ?_; rintro v S1 hk1 rfl hl; refine ⟨zt, ?_⟩
      refine zp hl rfl (spec10 w u hw hu) ?_; rintro v S1 hk1 rfl hl; refine ⟨zt, ?_⟩
      refine zg ?_
      exact ⟨rfl, bl (by rw [cw_eq]; simp), sB, hl⟩
   intro S1 hl
   refine zg ?_
   constructor <;> intro h57
   ·
    refine zg ?_
    exact (z1 rfl ⟨hl.keep, absurd h57 (by decide)⟩)
   ·
    refine xp_skip rfl ?_; refine xp_seq rfl ?_; refine zS ?_; refine xp_block rfl ?_
    -- LOOP
    refine xe_sub (L' := [(13, .int .i64 0), (7, .slice ax V.length V.length), (6, .bool false), (0, .slice a V.length cap)]) ⟨rfl, rfl, rfl, rfl, trivial⟩ ?_
    refine xp_loop rfl (fun m Le S' => ∃ i : Nat, i ≤ V.length ∧ m = V.length - i ∧ SubE [(13, .int .i64 (i : Int)), (7, .slice ax V.length V.length), (6, .bool false), (0, .slice a V.length cap)] Le ∧ HoldG S [T0, S] S' [] []) ?_ (m := V.length) ⟨0, by omega, rfl, ⟨rfl, rfl, rfl, rfl, trivial⟩, hl.tail.tail.tail.tail⟩
    clear hl; rintro m Le S' ⟨i, hi, rfl, hsub, hl⟩; refine xe_sub hsub ?_
    refine zg ?_
    constructor <;> intro h61
    ·
     have hlt : i < V.length := by have := of_decide_eq_true h61; omega
     obtain ⟨x, hx⟩ := nth_some hlt
     obtain ⟨b1, o1, cs1, aw, cw, ha, _, hrow, htk, hvx⟩ := hv.elem hx
     obtain ⟨b2, o2, cs2, aw2, cw2, ha2, _, hrow2, htk2, hvx2⟩ := hX.elem hx
     have hx16 := hV x (nth_mem hx)
     refine zg ?_; refine xp_draw (idx := [0, 1, 2, 3, 4, 5, 6, 7, 8, 9]) rfl (by kernel_rfl) (by kernel_rfl) ?_; refine zg ?_
     refine zp hl rfl (spec11 aw2 aw cw2 cw x x (by omega) (hvx2.move (hl.since 0 rfl)) (hvx.move (hl.since 1 rfl))) ?_; rintro v S1 hk1 rfl hl; refine ⟨zt, ?_⟩
     refine pr rfl (rd_un rfl rfl rfl) ?_; refine zg ?_
     constructor <;> intro h73
     ·
      refine zg ?_
      refine blk_ret (thn_ret (round_ret (blk_ret ((z1 rfl ⟨hl.keep, absurd h73 (by simp)⟩)))))
     ·
      refine zg ?_
      exact ⟨V.length - (i + 1), by omega, i + 1, by omega, rfl, ⟨rfl, rfl, rfl, rfl, trivial⟩, hl⟩
    ·
     refine zg ?_
     refine zc hl rfl (cc_known rfl) ?_; rintro v S1 hk1 rfl hl
     refine zg ?_
     refine y1 rfl ⟨hl.keep, rfl⟩
end Go.Proofs.YtgiibikieblicaaGreatDoor
namespace Go.Proofs.YtgiibikieblicaaGreatDoor
open Go.Cm Go
set_option maxRecDepth 100000
variable {S : St}
theorem rep_int {P : Program} {n : Nat} {t : TypeId} {k : IntKind} {c : List Value} (h : Rep P (n + 1) t S c) (hu : P.underlying t = some (.int k)) : ∃ m, c = [.int k m] := by
 unfold Rep at h
 rw [hu] at h
 obtain ⟨m, h, _⟩ := h
 exact ⟨m, h⟩
theorem rep_bool {P : Program} {n : Nat} {t : TypeId} {c : List Value} (h : Rep P (n + 1) t S c) (hu : P.underlying t = some .bool) : ∃ b, c = [.bool b] := by
 unfold Rep at h
 rw [hu] at h
 exact h
theorem rep_len {P : Program} {n : Nat} {t : TypeId} {fs : Array Field} {c : List Value} {z : Nat} (h : Rep P (n + 1) t S c) (hu : P.underlying t = some (.struct fs)) (hz : P.cellsOf t = z) : c.length = z := by
 unfold Rep at h
 rw [hu] at h
 exact h.1.trans hz
theorem rep_field {P : Program} {n j z : Nat} {t : TypeId} {fs : Array Field} {f : Field} {c : List Value} (h : Rep P (n + 1) t S c) (hu : P.underlying t = some (.struct fs)) (hf : nth fs.toList j = some f) (hz : P.cellsOf f.type = z) : Rep P n f.type S ((c.drop f.offset).take z) := by
 unfold Rep at h
 rw [hu] at h
 rw [← hz]
 exact h.2 f (nth_mem hf)
theorem nth_range {α : Type} (f : Nat → α) : ∀ (n k i : Nat), i < n → nth ((List.range' k n).map f) i = some (f (k + i))
 | n + 1, k, 0, _ => rfl
 | n + 1, k, i + 1, h => by
  show nth ((List.range' (k + 1) n).map f) i = _
  rw [nth_range f n (k + 1) i (by omega)]
  congr 2; omega
theorem rep_slice {P : Program} {n z : Nat} {t e : TypeId} {c : List Value} (h : Rep P (n + 1) t S c) (hu : P.underlying t = some (.slice e)) (hz : P.cellsOf e = z) : ∃ v C, c = [v] ∧ SliceAt S e z v C ∧ ∀ x, x ∈ C → Rep P n e S x := by
 unfold Rep at h
 rw [hu] at h
 rcases h with h | ⟨b, o, k, h⟩ | ⟨b, len, cs, h1, h2, h3, h4, h5, h6⟩
 ·exact ⟨_, [], h, .inl ⟨rfl, .inl rfl⟩, fun x hx => (List.not_mem_nil hx).elim⟩
 ·exact ⟨_, [], h, .inl ⟨rfl, .inr ⟨b, o, k, rfl⟩⟩, fun x hx => (List.not_mem_nil hx).elim⟩
 ·refine ⟨_, (List.range' 0 len).map (fun i => (cs.drop (i * z)).take z), h1, .inr ⟨b, 0, len, cs, by simp, by simp, ⟨h2, _, _, h3⟩, fun k x hk => ?_⟩, fun x hx => ?_⟩
  ·have hlt : k < len := by have := nth_lt hk; simpa using this
   rw [nth_range _ _ _ _ hlt] at hk
   cases hk
   rw [dropN_eq, Nat.zero_add, Nat.zero_add, takeN_some]
   rw [List.length_drop, h4, hz]
   have : (k + 1) * z ≤ len * z := Nat.mul_le_mul_right z hlt
   rw [Nat.add_mul] at this
   omega
  ·obtain ⟨i, hi, rfl⟩ := List.mem_map.1 hx
   rw [List.mem_range'_1] at hi
   have := h6 i (by omega)
   rw [hz] at this
   exact this
theorem uncons {c : List Value} {n : Nat} (h : c.length = n + 1) : ∃ x r, c = x :: r ∧ r.length = n := by
 cases c with
 | nil => cases h
 | cons x r => exact ⟨x, r, rfl, by simpa using h⟩
theorem rep_time {c : List Value} {n : Nat} (h : Rep Tryz.prog (n + 2) 50 S c) : ∃ t : Ti, c = t.cells := by
 have hl0 := rep_len h Tryz.underlying50 (z := 2) (by kernel_rfl)
 obtain ⟨x0, r0, rfl, hl1⟩ := uncons hl0
 obtain ⟨x1, r1, rfl, hl2⟩ := uncons hl1
 obtain rfl := List.length_eq_zero_iff.1 hl2
 obtain ⟨a0, e0⟩ := rep_int (rep_field h Tryz.underlying50 (j := 0) (z := 1) rfl (by kernel_rfl)) Tryz.underlying3
 obtain ⟨a1, e1⟩ := rep_int (rep_field h Tryz.underlying50 (j := 1) (z := 1) rfl (by kernel_rfl)) Tryz.underlying3
 cases e0; cases e1
 exact ⟨⟨a0, a1⟩, rfl⟩
theorem rep_pitch {c : List Value} {n : Nat} (h : Rep Tryz.prog (n + 2) 52 S c) : ∃ t : Pt, c = t.cells := by
 have hl0 := rep_len h Tryz.underlying52 (z := 3) (by kernel_rfl)
 obtain ⟨x0, r0, rfl, hl1⟩ := uncons hl0
 obtain ⟨x1, r1, rfl, hl2⟩ := uncons hl1
 obtain ⟨x2, r2, rfl, hl3⟩ := uncons hl2
 obtain rfl := List.length_eq_zero_iff.1 hl3
 obtain ⟨a0, e0⟩ := rep_int (rep_field h Tryz.underlying52 (j := 0) (z := 1) rfl (by kernel_rfl)) Tryz.underlying3
 obtain ⟨a1, e1⟩ := rep_int (rep_field h Tryz.underlying52 (j := 1) (z := 1) rfl (by kernel_rfl)) Tryz.underlying3
 obtain ⟨a2, e2⟩ := rep_int (rep_field h Tryz.underlying52 (j := 2) (z := 1) rfl (by kernel_rfl)) Tryz.underlying3
 cases e0; cases e1; cases e2
 exact ⟨⟨a0, a1, a2⟩, rfl⟩
theorem rep_event {c : List Value} {n : Nat} (h : Rep Tryz.prog (n + 3) 54 S c) : ∃ t : Ev, c = t.cells := by
 have hl0 := rep_len h Tryz.underlying54 (z := 10) (by kernel_rfl)
 obtain ⟨x0, r0, rfl, hl1⟩ := uncons hl0
 obtain ⟨x1, r1, rfl, hl2⟩ := uncons hl1
 obtain ⟨x2, r2, rfl, hl3⟩ := uncons hl2
 obtain ⟨x3, r3, rfl, hl4⟩ := uncons hl3
 obtain ⟨x4, r4, rfl, hl5⟩ := uncons hl4
 obtain ⟨x5, r5, rfl, hl6⟩ := uncons hl5
 obtain ⟨x6, r6, rfl, hl7⟩ := uncons hl6
 obtain ⟨x7, r7, rfl, hl8⟩ := uncons hl7
 obtain ⟨x8, r8, rfl, hl9⟩ := uncons hl8
 obtain ⟨x9, r9, rfl, hl10⟩ := uncons hl9
 obtain rfl := List.length_eq_zero_iff.1 hl10
 obtain ⟨t0, e0⟩ := rep_time (rep_field h Tryz.underlying54 (j := 0) (z := 2) rfl (by kernel_rfl))
 obtain ⟨t1, e1⟩ := rep_time (rep_field h Tryz.underlying54 (j := 1) (z := 2) rfl (by kernel_rfl))
 obtain ⟨p, e2⟩ := rep_pitch (rep_field h Tryz.underlying54 (j := 2) (z := 3) rfl (by kernel_rfl))
 obtain ⟨q, e3⟩ := rep_bool (rep_field h Tryz.underlying54 (j := 3) (z := 1) rfl (by kernel_rfl)) Tryz.underlying4
 obtain ⟨a4, e4⟩ := rep_int (rep_field h Tryz.underlying54 (j := 4) (z := 1) rfl (by kernel_rfl)) Tryz.underlying3
 obtain ⟨a5, e5⟩ := rep_int (rep_field h Tryz.underlying54 (j := 5) (z := 1) rfl (by kernel_rfl)) Tryz.underlying3
 cases e0; cases e1; cases e2; cases e3; cases e4; cases e5
 exact ⟨⟨t0, t1, p, q, a4, a5⟩, rfl⟩
theorem all_evs : ∀ {C : List (List Value)}, (∀ x, x ∈ C → ∃ s : Ev, x = s.cells) → ∃ L : List Ev, C = L.map Ev.cells
 | [], _ => ⟨[], rfl⟩
 | x :: C, h => by
  obtain ⟨s, e⟩ := h x (List.mem_cons_self ..)
  obtain ⟨L, e2⟩ := all_evs (C := C) fun y hy => h y (List.mem_cons_of_mem _ hy)
  exact ⟨s :: L, by rw [e, e2]; rfl⟩
theorem rep_voice {c : List Value} {n : Nat} (h : Rep Tryz.prog (n + 4) 27 S c) : ∃ (w : Value) (L : List Ev), c = [w] ∧ Evs S w L := by
 obtain ⟨v, C, e1, h1, hC⟩ := rep_slice h Tryz.underlying27 (z := 10) (by kernel_rfl)
 obtain ⟨L, rfl⟩ := all_evs fun x hx => rep_event (hC x hx)
 exact ⟨v, L, e1, h1⟩
theorem all_voices : ∀ {C : List (List Value)}, (∀ x, x ∈ C → ∃ (w : Value) (L : List Ev), x = [w] ∧ Evs S w L) → ∃ (ws : List Value) (V : List (List Ev)), C = ws.map (fun w => [w]) ∧ ws.length = V.length ∧ ∀ k w x, nth ws k = some w → nth V k = some x → Evs S w x
 | [], _ => ⟨[], [], rfl, rfl, fun k w x h => by cases k <;> cases h⟩
 | x :: C, h => by
  obtain ⟨w, L, e, hw⟩ := h x (List.mem_cons_self ..)
  obtain ⟨ws, V, e2, e3, hV⟩ := all_voices (C := C) fun y hy => h y (List.mem_cons_of_mem _ hy)
  refine ⟨w :: ws, L :: V, by rw [e, e2]; rfl, by simp [e3], fun k u y h1 h2 => ?_⟩
  cases k with
  | zero => cases h1; cases h2; exact hw
  | succ k => exact hV k u y h1 h2
theorem rep_voices {c : List Value} {n : Nat} (h : Rep Tryz.prog (n + 5) 22 S c) : ∃ (a : Option Addr) (cap : Nat) (V : List (List Ev)), c = [.slice a V.length cap] ∧ Vs S (.slice a V.length cap) V := by
 obtain ⟨v, C, e1, h1, hC⟩ := rep_slice h Tryz.underlying22 (z := 1) (by kernel_rfl)
 obtain ⟨ws, V, rfl, e3, hV⟩ := all_voices fun x hx => rep_voice (hC x hx)
 have hs : Vs S v V := ⟨ws, h1, e3, hV⟩
 obtain ⟨a, cap, rfl⟩ := Vs.is hs
 exact ⟨a, cap, V, e1, hs⟩
theorem rep_int64 {n : Nat} {t : TypeId} {c : List Value} (h : Rep Tryz.prog (n + 1) t S c) (hu : Tryz.prog.underlying t = some (.int .i64)) : ∃ m, c = [.int .i64 m] ∧ I64 m := by
 unfold Rep at h
 rw [hu] at h
 obtain ⟨m, h, hw⟩ := h
 refine ⟨m, h, ?_⟩
 have hw : (decide (IntKind.i64.min ≤ m) && decide (m ≤ IntKind.i64.max)) = true := hw
 rw [Bool.and_eq_true] at hw
 exact ⟨of_decide_eq_true hw.1, of_decide_eq_true hw.2⟩
theorem rep_wt {c : List Value} {n : Nat} (h : Rep Tryz.prog (n + 2) 24 S c) : ∃ w : Int × Int × Int, c = [.int .i64 w.1, .int .i64 w.2.1, .int .i64 w.2.2] ∧ W64 w := by
 have hl0 := rep_len h Tryz.underlying24 (z := 3) (by kernel_rfl)
 obtain ⟨x0, r0, rfl, hl1⟩ := uncons hl0
 obtain ⟨x1, r1, rfl, hl2⟩ := uncons hl1
 obtain ⟨x2, r2, rfl, hl3⟩ := uncons hl2
 obtain rfl := List.length_eq_zero_iff.1 hl3
 obtain ⟨a0, e0, i0⟩ := rep_int64 (rep_field h Tryz.underlying24 (j := 0) (z := 1) rfl (by kernel_rfl)) Tryz.underlying3
 obtain ⟨a1, e1, i1⟩ := rep_int64 (rep_field h Tryz.underlying24 (j := 1) (z := 1) rfl (by kernel_rfl)) Tryz.underlying3
 obtain ⟨a2, e2, i2⟩ := rep_int64 (rep_field h Tryz.underlying24 (j := 2) (z := 1) rfl (by kernel_rfl)) Tryz.underlying3
 cases e0; cases e1; cases e2
 exact ⟨(a0, a1, a2), rfl, i0, i1, i2⟩
end Go.Proofs.YtgiibikieblicaaGreatDoor
namespace Go.Proofs.YtgiibikieblicaaGreatDoor
open Go.Cm Go
set_option maxRecDepth 100000
variable {S : St}
theorem known_M {W : World} (h : Met W) : KnownSound Tryz.prog KK W := by
 refine ⟨ext_sound _, fun f args S v hv => ?_⟩
 simp only [KK, kk, callM] at hv
 split at hv
 ·cases hb : Nat.beq f 5 with
  | true =>
   rw [hb] at hv
   cases hv
   obtain rfl := of_nbeq hb
   exact ⟨fun ρ => .bool _, Tryz.f5, _, Tryz.func5, bdA5, by kernel_rfl, zeroKnown fun w hk => true_A (met_later hk h)⟩
  | false =>
   rw [hb] at hv
   cases hv
 ·cases hv
theorem globals2 : Tryz.prog.globals.size = 2 := by kernel_rfl
theorem start_gl : Gl (startS listed Tryz.prog.globals.size) :=
 ⟨Nat.lt_of_lt_of_le (by decide : 1 < 2) (Nat.le_of_ble_eq_true (show Nat.ble 2 (startS listed Tryz.prog.globals.size).size = true by kernel_rfl)), by kernel_rfl, by kernel_rfl⟩
theorem start_fresh : Fresh (startS listed Tryz.prog.globals.size) := by
 intro b hb
 cases h : (startS listed Tryz.prog.globals.size).get b with
 | none => rfl
 | some B =>
  obtain ⟨l, hl, _⟩ := start_get Tryz.prog.globals.size listed b B h
  have hb' : 2 ≤ b := globals2 ▸ hb
  rcases listed_eq b l hl with ⟨rfl, _⟩ | ⟨rfl, _⟩ <;> omega
theorem vr_agg3 {ρ : Rmap} {x y z : Value} {v : Value} (h : VRs ρ [x, y, z] v.cells.toList) : VR ρ (aggL [x, y, z]) v := by
 cases v with
 | agg cs => exact .agg h.1 h.2
 | _ => exact absurd h.1 (by simp [Value.cells])
theorem joinV {W : World} (hm : Met W) {H : Type} {enc : TypeId × Value → H} {a1 : Option Addr} {l1 k1 : Nat} {v2 v3 : Value} {d1 d2 d3 : DataW H} {p1 p2 p3 : List MemPlace}
  (h1 : DataW.Trod enc Tryz.prog W 0 (fun _ => true) true 22 (.slice a1 l1 k1) d1 p1) (h2 : DataW.Trod enc Tryz.prog W 0 (fun _ => true) true 24 v2 d2 p2) (h3 : DataW.Trod enc Tryz.prog W 0 (fun _ => true) true 24 v3 d3 p3)
  {f : FuncId} {fn : Func} {c : Code} (hf : Tryz.prog.funcs[f]? = some fn) (hb : fn.body = some c) (hnm : (fn.name == "runtime.NumGoroutine") = false)
  (spec : ∀ (S : St) (a : Option Addr) (cap : Nat) (V : List (List Ev)) (w u : Int × Int × Int), Fresh S → Gl S → Vs S (.slice a V.length cap) V → W64 w → W64 u →
   CC Tryz.prog KK f [.slice a V.length cap, wtV w, wtV u] S fun v _ => v = .bool true) :
  Calls Tryz.prog f #[.slice a1 l1 k1, v2, v3] W fun e w => e = .returned (.bool true) ∧ Kept W w := by
 obtain ⟨fuel1, h1⟩ := h1
 obtain ⟨fuel2, h2⟩ := h2
 obtain ⟨fuel3, h3⟩ := h3
 have hsim := start_sim (P := Tryz.prog) (size_le hm) hm listed_flat
 obtain ⟨ρ1, S1, c1, x1, s1, e1, r1, q1⟩ := lay (P := Tryz.prog) (w0 := ⟨W, fun _ => false⟩) 7 22 fuel1 _ _ _ (by kernel_rfl) (fun _ => rfl) h1 _ _ hsim
 obtain ⟨ρ2, S2, c2, x2, s2, e2, r2, q2⟩ := lay (P := Tryz.prog) (w0 := ⟨W, fun _ => false⟩) 7 24 fuel2 _ _ _ (by kernel_rfl) (fun _ => rfl) h2 _ _ s1
 obtain ⟨ρ3, S3, c3, x3, s3, e3, r3, q3⟩ := lay (P := Tryz.prog) (w0 := ⟨W, fun _ => false⟩) 7 24 fuel3 _ _ _ (by kernel_rfl) (fun _ => rfl) h3 _ _ s2
 obtain ⟨a, cap, V, rfl, hv⟩ := rep_voices (n := 2) (q1.keep (e2.trans e3))
 obtain ⟨w, rfl, iw⟩ := rep_wt (n := 5) q2
 obtain ⟨u, rfl, iu⟩ := rep_wt (n := 5) q3
 have r2 := vr_agg3 (r2.mono x3)
 have r3 := vr_agg3 r3
 have k13 := (e1.trans e2).trans e3
 refine (calls_of_cc follows (known_M hm) hf hb hnm s3 (args' := #[.slice a1 l1 k1, v2, v3]) (VRs.cons (VRs.head ((r1.mono x2).mono x3)) (VRs.cons r2 (VRs.cons r3 VRs.nil))) (spec S3 a cap V w u (k13.3 start_fresh) (start_gl.keep k13) hv iw iu)).mono ?_
 rintro e w ⟨v, ρ', v', hv, hr, he, hk⟩
 subst hv
 cases hr
 exact ⟨he, hk⟩
end Go.Proofs.YtgiibikieblicaaGreatDoor
namespace Go.Proofs.YtgiibikieblicaaGreatDoor
open Go.Cm Go
set_option maxRecDepth 100000
variable {S : St}
open Go.ChangeShapes Go.WideShapes Go.ChangeAt Go.RowKit
theorem own_none : ownKnob Tryz.prog.godebug = none := by kernel_rfl
theorem _root_.Go.Cm.Kept.but {W w : World} (h : Kept W w) (may : MemPlace → Prop) : W.keptBut w may := by
 refine ⟨h.os, h.out, fun i hi => ?_⟩
 rw [h.old i hi]
 cases W.heap[i]? with
 | none => rfl
 | some o => cases o <;> first | exact ⟨rfl, rfl, rfl, fun _ _ => rfl⟩ | exact .inr ⟨rfl, rfl⟩ | rfl
theorem post_true {H : Type} {enc : TypeId × Value → H} {P : Program} {f : Func} {s : ChangeSpec} {apart fresh handsOn : Bool} {W W' : World} {args : Array Value} {ds gs : List (DataW H)} {before pa pv : List MemPlace} {t : TypeId}
  (hr : f.resultTypes = #[t]) (ht : P.underlying t = some .bool) (hs : (s.fn H (ds ++ gs)).results = [.lit (.bool true)])
  (hW : DataW.Whole enc P f.params.toList s.vars apart W args.toList ds gs before) (hk : Kept W W')
  (hargs : DataW.TrodAll enc P W' 0 (fun b => decide (b < W.heap.size)) true f.params.toList args.toList (s.fn H (ds ++ gs)).args pa)
  (hvars : DataW.TrodVars enc P W' (fun b => decide (b < W.heap.size)) s.vars (s.fn H (ds ++ gs)).vars pv) : s.post enc P f apart fresh handsOn false W args (.bool true) W' := by
 refine ⟨ds, gs, before, [], pa, pv, hW, ?_, hargs, hvars, hk.but _, fun h => by cases h⟩
 rw [hr, hs]
 exact trodAll_mk1 (shut_bool ht _)
def holds (l : List Value) : Obj → Obj
 | .cells _ t frozen => .cells l.toArray t frozen
 | o => o
noncomputable def laidHeap (h : Array Obj) : Array Obj := ((h).modify 0 (holds of0)).modify 1 (holds of1)
noncomputable def laidWorld (os : Os) : World :=
 { World.holding Tryz.prog os ⟨#[], #[], []⟩ with heap := laidHeap (World.holding Tryz.prog os ⟨#[], #[], []⟩).heap }
def za : Array Value := #[.slice none 0 0, .agg #[.int .i64 0, .int .i64 0, .int .i64 0], .agg #[.int .i64 0, .int .i64 0, .int .i64 0]]
def zw {H : Type} : DataW H := .agg [.lit (.int .i64 0), .lit (.int .i64 0), .lit (.int .i64 0)]
def zd {H : Type} : List (DataW H) := [.nil, zw, zw]
theorem laid_met (os : Os) : laidMet Tryz.prog Rows.weighSettingsRow.laid ((laidWorld os).forCall (fun _ _ => 0) ⟨#[], za, []⟩).memory :=
 laidMet_of_run' 8 (by kernel_rfl) (by kernel_rfl)
theorem reads (os : Os) {H : Type} (enc : TypeId × Value → H) : ∃ places, DataW.whole enc Tryz.prog ((laidWorld os).forCall (fun _ _ => 0) ⟨#[], za, []⟩).memory Tryz.f3.params.toList Rows.weighSettingsSpec.vars false za.toList 8 = some (zd, [], places) :=
 ⟨[], by kernel_rfl⟩
theorem laids : Laids Rows.weighSettingsRow.laid := by
 refine ⟨?_, ?_⟩
 all_goals
  show _ ∈ [_, _]
  simp only [List.mem_cons, true_or, or_true]
theorem paramsM : Tryz.f3.params = #[22, 24, 24] := by kernel_rfl
theorem contract (H : Type) (enc : TypeId × Value → H) (W : World) (base : Nat) (args : Array Value) (ds gs : List (DataW H)) (before : List MemPlace)
  (hval : ∀ (j : Nat) t v, Tryz.f3.params[j]? = some t → args[j]? = some v → Value.okWide Tryz.prog W .any base t v)
  (hW : DataW.Whole enc Tryz.prog Tryz.f3.params.toList Rows.weighSettingsSpec.vars false W args.toList ds gs before) (hL : laidMetH Tryz.prog Rows.weighSettingsRow.laid W) :
  Calls Tryz.prog 3 args W fun e W' => ∃ v, e = .returned v ∧ Rows.weighSettingsSpec.post enc Tryz.prog Tryz.f3 false true false false W args v W' := by
 have hW' := hW
 obtain ⟨p, q, hA0, hV, rfl, hfz, hnd⟩ := hW
 have hA : DataW.TrodAll enc Tryz.prog W 0 (fun _ => true) true Tryz.f3.params.toList args.toList ds p := hA0
 rw [paramsM] at hA hval
 obtain ⟨v1, v2, v3, d1, d2, d3, p1, p2, p3, rfl, rfl, rfl, h1, h2, h3⟩ := trodAll_three hA
 obtain ⟨rfl, rfl⟩ := trodVars_none hV
 obtain ⟨x1, y1, z1, rfl⟩ := okWide_slice Tryz.underlying22 (hval 0 22 v1 rfl rfl)
 clear hA0
 refine (joinV (listed_met laids hL) h1 h2 h3 Tryz.func3 (c := cd3) (by kernel_rfl) (by kernel_rfl) (fun S a cap V w u hF hG hv hw hu => cc_mono (spec3 a cap V w u hF hG hv hw hu) fun v S' h => h.2)).mono fun e W' ⟨he, hk⟩ => ?_
 subst he
 refine ⟨_, rfl, post_true (pa := p1 ++ p2 ++ p3) (pv := []) (t := 4) (by kernel_rfl) (by kernel_rfl) rfl hW' hk ?_ ?_⟩
 ·rw [paramsM]
  exact retrodAll hk 7 _ _ _ _ (by kernel_rfl) hA
 ·exact rfl
theorem lifted (os : Os) (started : os.Started) (H : Type) (enc : TypeId × Value → H) (F : Stop.Interp) :
  ReturnsInHanded {} Tryz.checked os 3 .any ((OpenSpec.ofChange Rows.weighSettingsSpec).preRow enc Tryz.prog Tryz.f3 Rows.weighSettingsRow.domain false Rows.weighSettingsRow.laid) (((OpenSpec.ofChange Rows.weighSettingsSpec).at F).post enc Tryz.prog Tryz.f3 false true false false) := by
 obtain ⟨places, hx⟩ := reads os enc
 refine returnsInHanded_of_row (C := Tryz.checked) (s := OpenSpec.ofChange Rows.weighSettingsSpec) own_none started (by kernel_rfl) Tryz.func3
  (witness_row_at (enc := enc) (C := Tryz.checked) false (laidWorld os) za rfl (by kernel_rfl) (by kernel_rfl) (by kernel_rfl)
   (OpenSpec.preRow_of_cond 8 hx (by kernel_rfl) (fun k hk => by cases hk) (by kernel_rfl) (laid_met os))) ?_
 intro W base args ds gs before hval hW _ _ _ hL _ _
 exact contract H enc W base args ds gs before hval hW hL
theorem said : Rows.WeighSettingsSaid :=
 OpenClaim.holds_of_cond 3 Tryz.f3 rfl rfl rfl rfl rfl rfl rfl ⟨rfl, rfl, rfl, rfl, rfl⟩ rfl rfl rfl rfl rfl (by kernel_rfl) Tryz.func3 joined'
  (of_decide_eq_true (by kernel_rfl)) (by unfold Func.isWrapper; first | (rw [if_pos (by decide +kernel)]; kernel_rfl) | (rw [if_neg (by decide +kernel)]; exact ⟨rfl, rfl⟩))
  (fun os started H enc _ F => by rw [OpenClaim.pre_eq_preRow]; exact lifted os started H enc F)
theorem plain (f : FuncId) (fn : Func) (hf : Tryz.pinned.checked.prog.funcNamed "tactus/tactuslaw38.WeighSettings" = some f) (hfn : Tryz.pinned.checked.prog.funcs[f]? = some fn) :
  false = Tryz.pinned.checked.prog.looks [] ∧ ∀ (j : Nat) t, fn.params[j]? = some t → Tryz.pinned.checked.prog.wantsStandIn t = false := by
 obtain rfl : f = 3 := Option.some.inj ((show Tryz.prog.funcNamed "tactus/tactuslaw38.WeighSettings" = some 3 by kernel_rfl).symm.trans hf) |>.symm
 obtain rfl : fn = Tryz.f3 := (Option.some.inj (Tryz.func3.symm.trans hfn)).symm
 refine ⟨by kernel_rfl, fun j t ht => ?_⟩
 rw [paramsM] at ht
 have hmem := Array.mem_of_getElem? ht
 obtain rfl | rfl : t = 22 ∨ t = 24 := by simpa using hmem
 ·exact (show Tryz.prog.wantsStandIn 22 = false by kernel_rfl)
 ·exact (show Tryz.prog.wantsStandIn 24 = false by kernel_rfl)
theorem card : Rows.WeighSettingsCardSaid :=
 Claim7.holds_tied_plain_at .later [] _ _ _ _ said (fun _ h => by cases h) (by kernel_rfl) (fun _ h => by cases h) weighSettings_row_tie rfl ⟨rfl, rfl⟩ (by kernel_rfl) rfl plain (by kernel_rfl)
end Go.Proofs.YtgiibikieblicaaGreatDoor

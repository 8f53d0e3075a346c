/-
  The program: bracket.Over. The reference: Over. BracketChecks returns true. From contracts to calls. Which brackets are valid, which of them are over a sign, or which errors: BracketChecks returns true for all parts, brackets and numbers.
-/
import Derived.Test.YtkmhecihkckcmaaGreatDoorSmE
import Derived.Test.YtkmhecihkckcmaaGreatDoorBc4
import Derived.Test.YtkmhecihkckcmaaGreatDoorSmA
import Derived.Test.YtkmhecihkckcmaaGreatDoorBc3
import Derived.Test.YtkmhecihkckcmaaGreatDoorCards
import Derived.Test.YtkmhecihkckcmaaGreatDoorTie
import Derived.WalkKit
import Derived.ProofKit
import Derived.OpenShut
import Derived.Deep.DeepHandedRow
namespace Go.Proofs.YtkmhecihkckcmaaGreatDoor
open Go.Cm Go
set_option maxRecDepth 100000
variable {S : St}
def rangeB (C : List Sg) (n : Int) : Bool := decide (n < 0) || decide (n ≥ C.length)
def overE (nl : List UInt8) (C : List Sg) (L : List Bk) (n : Int) : List Int × Int := bif (checkE nl C L).1 != 0 then ([], (checkE nl C L).1) else bif rangeB C n then ([], 2) else (overI n L 0, 0)
theorem overE_1 {nl : List UInt8} {C : List Sg} {L : List Bk} {n : Int} (h : ((checkE nl C L).1 != 0) = true) : overE nl C L n = ([], (checkE nl C L).1) := by unfold overE; rw [h]; rfl
theorem overE_2 {nl : List UInt8} {C : List Sg} {L : List Bk} {n : Int} (h : ((checkE nl C L).1 != 0) = false) (h2 : rangeB C n = true) : overE nl C L n = ([], 2) := by unfold overE; rw [h, h2]; rfl
theorem overE_3 {nl : List UInt8} {C : List Sg} {L : List Bk} {n : Int} (h : ((checkE nl C L).1 != 0) = false) (h2 : rangeB C n = false) : overE nl C L n = (overI n L 0, 0) := by unfold overE; rw [h, h2]; rfl
theorem over_y {L : List Bk} {i : Nat} {x : Bk} {n : Int} (hx : nth L i = some x) (h : (decide (x.frm ≤ n) && decide (n ≤ x.upto)) = true) : overI n (L.drop i) i = ((i : Nat) : Int) :: overI n (L.drop (i + 1)) (i + 1) := by rw [drop_nthB hx, overI, h]; rfl
theorem over_n {L : List Bk} {i : Nat} {x : Bk} {n : Int} (hx : nth L i = some x) (h : (decide (x.frm ≤ n) && decide (n ≤ x.upto)) = false) : overI n (L.drop i) i = overI n (L.drop (i + 1)) (i + 1) := by rw [drop_nthB hx, overI, h]; rfl
theorem overI_len (n : Int) : ∀ (L : List Bk) (i : Nat), (overI n L i).length ≤ L.length
 | [], _ => Nat.le_refl _
 | x :: r, i => by
  have := overI_len n r (i + 1)
  rw [overI]
  cases (decide (x.frm ≤ n) && decide (n ≤ x.upto)) <;> simp <;> omega
theorem overE_len (nl : List UInt8) (C : List Sg) (L : List Bk) (n : Int) : (overE nl C L n).1.length ≤ L.length := by
 cases h : ((checkE nl C L).1 != 0) with
 | true => rw [overE_1 h]; exact Nat.zero_le _
 | false =>
  cases h2 : rangeB C n with
  | true => rw [overE_2 h h2]; exact Nat.zero_le _
  | false => rw [overE_3 h h2]; exact overI_len n L 0
theorem over_res {S' : St} {nl : List UInt8} {C : List Sg} {L : List Bk} {n e : Int} {w : Value} {O : List Int} (h : overE nl C L n = (O, e)) (hi : Ints S' w O) : ∃ w', tupV [w, .int .i64 e] = tupV [w', .int .i64 (overE nl C L n).2] ∧ Ints S' w' (overE nl C L n).1 := by
 rw [h]
 exact ⟨w, rfl, hi⟩
noncomputable def c8 : Code := Tryz.f8.body.getD .skip
theorem spec8 (nm : ByteArray) (a : Option Addr) (cap : Nat) (C : List Sg) (aL : Option Addr) (capL : Nat) (L : List Bk) (n : Int) (hnm : nm.data.toList.length ≤ 9223372036854775807) (hn : C.length ≤ 1000) (hL : L.length ≤ 1000) (hG : Gl S) (hGc : Gc S) (hF : Fresh S) (hv : Signs S (.slice a C.length cap) C) (hb : Bks S (.slice aL L.length capL) L) : CC Tryz.prog KK 8 [aggL [.string nm, .slice a C.length cap], .slice aL L.length capL, .int .i64 n] S (fun v S' => Keep S S' ∧ (∃ w, v = tupV [w, .int .i64 (overE nm.data.toList C L n).2] ∧ Ints S' w (overE nm.data.toList C L n).1)) := by
 refine cc_enter (c := c8) (n := 54) Tryz.func8 rfl rfl rfl (by kernel_rfl) rfl rfl ?_
 have hl := Hold.start S
 refine xs (by kernel_rfl) ?_; refine re_boxL hl rfl rfl rfl rfl rfl rfl ?_; intro B3 S3 hl; iterate 2 refine rm rfl ?_
 refine re_end rfl ?_; refine xp_seq rfl ?_; refine xs (by kernel_rfl) ?_; refine rr rfl (rd_load rfl rfl (loadN_of (z := 2) (by kernel_rfl) (by kernel_rfl) (hl.get 0 rfl) rfl)) ?_; refine rm rfl ?_
 refine re_callL hl rfl rfl rfl rfl rfl rfl rfl (spec6 nm a cap C aL capL L hnm hn hL (hG.keep hl.keep) (hGc.keep hl.keep) (hl.keep.3 hF) (hv.move (hl.since 0 rfl)) (hb.move (hl.since 0 rfl))) ?_; rintro v S1 hk1 rfl hl
 iterate 5 refine rm rfl ?_
 refine re_end rfl ?_; refine xs (by kernel_rfl) ?_; refine rm rfl ?_; refine rr rfl (rd_bin rfl rfl rfl rfl) ?_; refine re_end rfl ?_; refine xp_cond rfl rfl (fun h20 => ?_) (fun h20 => ?_)
 ·
  refine xs (by kernel_rfl) ?_; iterate 3 refine rm rfl ?_
  refine re_end rfl ?_; refine xp_ret rfl ?_
  refine thn_ret (done_ret (ress_tmp rfl (ress_tmp rfl rfl)) ⟨hl.keep, over_res (overE_1 h20) (ints_nil _)⟩)
 ·
  refine xp_skip rfl ?_; refine xp_seq rfl ?_; refine xp_seq rfl (xe_toE hl 30 (.bool (rangeB C n)) ?_ rfl ?_)
  ·
   refine xg (by kernel_rfl) ?_; refine rm rfl ?_; refine rr rfl (rd_bin rfl rfl rfl rfl) ?_; refine rm rfl ?_; refine re_bool (d := 24) rfl (fun h24 => ?_) (fun h24 => ?_)
   ·
    iterate 5 refine rz rfl ?_
    refine rm rfl ?_; refine re_end rfl ?_
    exact ⟨rfl, bl (by unfold rangeB; rw [h24]; rfl), by repeat (first | exact subL_refl _ | refine subL_skip rfl ?_), hl⟩
   ·
    refine rm rfl ?_; refine rr rfl (rd_fieldAddr rfl rfl (fa Tryz.underlying24 az24 rfl)) ?_; refine rr rfl (rl hl 0 rfl rfl (by kernel_rfl) rfl rfl) ?_; refine rr rfl (rd_len rfl rfl (len_slice Tryz.underlying22)) ?_; refine rr rfl (rd_bin rfl rfl rfl rfl) ?_; refine rm rfl ?_; refine re_end rfl ?_
    exact ⟨rfl, bl (by unfold rangeB; rw [h24]; rfl), by repeat (first | exact subL_refl _ | refine subL_skip rfl ?_), hl⟩
  intro S1 hl
  refine xp_cond rfl rfl (fun h30 => ?_) (fun h30 => ?_)
  ·
   refine xs (by kernel_rfl) ?_; iterate 2 refine rm rfl ?_
   refine re_end rfl ?_; refine xp_ret rfl ?_
   refine thn_ret (done_ret (ress_tmp rfl (ress_tmp rfl rfl)) ⟨hl.keep, over_res (overE_2 h20 h30) (ints_nil _)⟩)
  ·
   refine xp_skip rfl ?_; refine xs (by kernel_rfl) ?_; refine rm rfl ?_; refine re_end rfl ?_; refine xp_seq rfl ?_; refine xs (by kernel_rfl) ?_; refine rm rfl ?_; refine rr rfl (rd_len rfl rfl (len_slice Tryz.underlying25)) ?_; refine rm rfl ?_; refine re_end rfl ?_; refine xp_block rfl ?_
   -- LOOP
   have hl := hl.addG (g := gLi (.slice none 0 0) []) (.inl ⟨rfl, rfl, rfl⟩)
   refine xe_sub (L' := [(33, .int .i64 0), (32, .int .i64 L.length), (31, .slice aL L.length capL), (10, .slice none ([] : List Int).length ([] : List Int).length), (2, .int .i64 n)]) ⟨rfl, rfl, rfl, rfl, rfl, trivial⟩ ?_
   refine xp_loop rfl (fun m Le S' => ∃ (i : Nat) (av : Option Addr) (O : List Int), i ≤ L.length ∧ m = L.length - i ∧ O.length ≤ i ∧ O ++ overI n (L.drop i) i = overI n L 0 ∧ SubE [(33, .int .i64 (i : Int)), (32, .int .i64 L.length), (31, .slice aL L.length capL), (10, .slice av O.length O.length), (2, .int .i64 n)] Le ∧ HoldG S [S] S' [(B3, .cells [.string nm, .slice a C.length cap] 24 false true [])] [gLi (.slice av O.length O.length) O]) ?_ (m := L.length) ⟨0, none, [], by omega, by omega, Nat.le_refl _, rfl, ⟨rfl, rfl, rfl, rfl, rfl, trivial⟩, hl⟩
   clear hl; rintro m Le S' ⟨i, av, O, hi, rfl, hO, hpr, hsub, hl⟩; refine xe_sub hsub ?_
   refine xs (by kernel_rfl) ?_; refine rr rfl (rd_bin rfl rfl rfl rfl) ?_; refine re_end rfl ?_; refine xp_seq rfl ?_; refine xp_cond rfl rfl (fun h34 => ?_) (fun h34 => ?_)
   ·
    have hlt : i < L.length := by have := of_decide_eq_true h34; omega
    obtain ⟨x, hx⟩ := nth_some hlt
    obtain ⟨b1, o1, cs1, ha1, _, hrow1, htk1⟩ := hb.elem hx
    refine xp_skip rfl ?_; refine xp_seq rfl ?_; refine xp_block rfl ?_; refine xs (by kernel_rfl) ?_; refine rm rfl ?_; refine rr rfl (rd_indexAddr rfl rfl rfl (indexAddr_sl (z := 3) ha1 Tryz.underlying25 (by kernel_rfl) ⟨by omega, by omega⟩)) ?_; refine rr rfl (rd_load rfl rfl (loadN_row (z := 3) (by kernel_rfl) (by kernel_rfl) (row_move (hl.since 0 rfl) hrow1) htk1)) ?_; refine re_allocL hl rfl rfl rfl rfl rfl (z := [.int .i64 0, .int .i64 0, .int .i64 0]) (by kernel_rfl) ?_; intro B12 S12 hl; refine rm rfl ?_; refine re_storeL hl 0 rfl rfl rfl rfl rfl rfl rfl (by kernel_rfl) rfl ?_; intro S1 hl
    refine re_end rfl ?_; refine xp_seq rfl (xe_toE hl 47 (.bool (decide (x.frm ≤ n) && decide (n ≤ x.upto))) ?_ rfl ?_)
    ·
     refine xg (by kernel_rfl) ?_; refine rr rfl (rd_fieldAddr rfl rfl (fa Tryz.underlying46 az46 rfl)) ?_; refine rr rfl (rl hl 0 rfl rfl (by kernel_rfl) rfl rfl) ?_; refine rm rfl ?_; refine rr rfl (rd_bin rfl rfl rfl rfl) ?_; refine rm rfl ?_; refine re_bool (d := 42) rfl (fun h42 => ?_) (fun h42 => ?_)
     ·
      refine rm rfl ?_; refine rr rfl (rd_fieldAddr rfl rfl (fa Tryz.underlying46 az46 rfl)) ?_; refine rr rfl (rl hl 0 rfl rfl (by kernel_rfl) rfl rfl) ?_; refine rr rfl (rd_bin rfl rfl rfl rfl) ?_; refine rm rfl ?_; refine re_end rfl ?_
      exact ⟨rfl, bl (by first | (simp [h42]; done) | (simp only [h42, BLs])), by repeat (first | exact subL_refl _ | refine subL_skip rfl ?_), hl⟩
     ·
      iterate 4 refine rz rfl ?_
      refine rm rfl ?_; refine re_end rfl ?_
      exact ⟨rfl, bl (by first | (simp [h42]; done) | (simp only [h42, BLs])), by repeat (first | exact subL_refl _ | refine subL_skip rfl ?_), hl⟩
    intro S1 hl
    refine xp_cond rfl rfl (fun h47 => ?_) (fun h47 => ?_)
    ·
     refine xg (by kernel_rfl) ?_; iterate 2 refine rm rfl ?_
     refine re_buildSliceR hl rfl rfl rfl rfl rfl Tryz.underlying31 rfl (c := [iv (i : Int)]) (by kernel_rfl) ?_; intro B50 S1 hr50 hl; refine re_appendG hl 0 rfl rfl (by simp) rfl rfl rfl rfl rfl rfl rfl Tryz.underlying31 Tryz.underlying31 rfl rfl (by kernel_rfl) (src_row (new := [iv (i : Int)]) hr50 rfl) rfl rfl (by kernel_rfl) (by show O.length + 1 ≤ maxNeed; unfold maxNeed; omega) ?_; intro v51 S1 hl; refine rm rfl ?_; refine re_end rfl ?_; refine xg (by kernel_rfl) ?_; refine rr rfl (rd_bin rfl rfl rfl (i6 (by omega))) ?_; refine rm rfl ?_; refine re_end rfl ?_
     obtain ⟨av2, ev⟩ : ∃ av2, v51 = .slice av2 (O.length + 1) (O.length + 1) := Grow.is (hl.gr _ (List.mem_cons_self ..))
     subst ev
     refine ⟨L.length - (i + 1), by omega, i + 1, av2, O ++ [((i : Nat) : Int)], by omega, rfl, by simp; omega, by rw [← hpr, over_y hx h47]; simp, ?_⟩
     simp only [gLi, List.length_append, List.length_singleton, List.map_append, List.map_cons, List.map_nil]
     exact ⟨⟨rfl, rfl, rfl, rfl, rfl, trivial⟩, hl.tail⟩
    ·
     refine xp_skip rfl ?_; refine xg (by kernel_rfl) ?_; refine rr rfl (rd_bin rfl rfl rfl (i6 (by omega))) ?_; refine rm rfl ?_; refine re_end rfl ?_
     exact ⟨L.length - (i + 1), by omega, i + 1, av, O, by omega, rfl, by omega, by rw [← hpr, over_n hx h47], ⟨rfl, rfl, rfl, rfl, rfl, trivial⟩, hl.tail⟩
   ·
    refine xp_exit rfl ?_; refine xs (by kernel_rfl) ?_; iterate 3 refine rm rfl ?_
    refine re_end rfl ?_; refine xp_ret rfl ?_
    refine done_ret (ress_tmp rfl (ress_tmp rfl rfl)) ⟨hl.keep, over_res (O := O) (by rw [overE_3 h20 h30, ← hpr, List.drop_eq_nil_of_le (by have := of_decide_eq_false h34; omega)]; exact congrArg (fun z => (z, (0 : Int))) (List.append_nil O)) (growI' (hl.gr _ (List.mem_cons_self ..)))⟩
end Go.Proofs.YtkmhecihkckcmaaGreatDoor
namespace Go.Proofs.YtkmhecihkckcmaaGreatDoor
open Go.Cm Go
set_option maxRecDepth 100000
variable {S : St}
noncomputable def c9 : Code := Tryz.f9.body.getD .skip
theorem spec9 (nm : ByteArray) (a : Option Addr) (cap : Nat) (C : List Sg) (aL : Option Addr) (capL : Nat) (L : List Bk) (n : Int) (hnm : nm.data.toList.length ≤ 9223372036854775807) (hn : C.length ≤ 1000) (hL : L.length ≤ 1000) (hF : Fresh S) (hv : Signs S (.slice a C.length cap) C) (hb : Bks S (.slice aL L.length capL) L) : CC Tryz.prog KK 9 [aggL [.string nm, .slice a C.length cap], .slice aL L.length capL, .int .i64 n] S (fun v S' => Keep S S' ∧ (∃ w, v = tupV [w, .int .i64 (overE nm.data.toList C L n).2] ∧ Ints S' w (overE nm.data.toList C L n).1)) := by
 refine cc_enter (c := c9) (n := 57) Tryz.func9 rfl rfl rfl (by kernel_rfl) rfl rfl ?_
 have hl := Hold.start S
 refine xs (by kernel_rfl) ?_; refine re_boxL hl rfl rfl rfl rfl rfl rfl ?_; intro B3 S3 hl; iterate 2 refine rm rfl ?_
 refine re_end rfl ?_; refine xs (by kernel_rfl) ?_; refine rr rfl (rd_load rfl rfl (loadN_of (z := 2) (by kernel_rfl) (by kernel_rfl) (hl.get 0 rfl) rfl)) ?_; refine rm rfl ?_
 refine re_callL hl rfl rfl rfl rfl rfl rfl rfl (spec7 nm a cap C aL capL L hnm hn hL (hl.keep.3 hF) (hv.move (hl.since 0 rfl)) (hb.move (hl.since 0 rfl))) ?_; rintro v S1 hk1 rfl hl
 iterate 5 refine rm rfl ?_
 refine re_end rfl ?_; refine xp_seq rfl ?_; refine xs (by kernel_rfl) ?_; refine rm rfl ?_; refine rr rfl (rd_bin rfl rfl rfl rfl) ?_; refine re_end rfl ?_; refine xp_cond rfl rfl (fun h19 => ?_) (fun h19 => ?_)
 ·
  refine xs (by kernel_rfl) ?_; iterate 3 refine rm rfl ?_
  refine re_end rfl ?_; refine xp_ret rfl ?_
  refine thn_ret (done_ret (ress_tmp rfl (ress_tmp rfl rfl)) ⟨hl.keep, over_res (overE_1 h19) (ints_nil _)⟩)
 ·
  refine xp_skip rfl ?_; refine xp_seq rfl ?_; refine xp_seq rfl (xe_toE hl 29 (.bool (rangeB C n)) ?_ rfl ?_)
  ·
   refine xg (by kernel_rfl) ?_; refine rm rfl ?_; refine rr rfl (rd_bin rfl rfl rfl rfl) ?_; refine rm rfl ?_; refine re_bool (d := 23) rfl (fun h23 => ?_) (fun h23 => ?_)
   ·
    iterate 5 refine rz rfl ?_
    refine rm rfl ?_; refine re_end rfl ?_
    exact ⟨rfl, bl (by unfold rangeB; rw [h23]; rfl), by repeat (first | exact subL_refl _ | refine subL_skip rfl ?_), hl⟩
   ·
    refine rm rfl ?_; refine rr rfl (rd_fieldAddr rfl rfl (fa Tryz.underlying24 az24 rfl)) ?_; refine rr rfl (rl hl 0 rfl rfl (by kernel_rfl) rfl rfl) ?_; refine rr rfl (rd_len rfl rfl (len_slice Tryz.underlying22)) ?_; refine rr rfl (rd_bin rfl rfl rfl rfl) ?_; refine rm rfl ?_; refine re_end rfl ?_
    exact ⟨rfl, bl (by unfold rangeB; rw [h23]; rfl), by repeat (first | exact subL_refl _ | refine subL_skip rfl ?_), hl⟩
  intro S1 hl
  refine xp_cond rfl rfl (fun h29 => ?_) (fun h29 => ?_)
  ·
   refine xs (by kernel_rfl) ?_; iterate 2 refine rm rfl ?_
   refine re_end rfl ?_; refine xp_ret rfl ?_
   refine thn_ret (done_ret (ress_tmp rfl (ress_tmp rfl rfl)) ⟨hl.keep, over_res (overE_2 h19 h29) (ints_nil _)⟩)
  ·
   refine xp_skip rfl ?_; refine xs (by kernel_rfl) ?_; refine rm rfl ?_; refine re_end rfl ?_; refine xp_seq rfl ?_; refine xs (by kernel_rfl) ?_; refine rm rfl ?_; refine re_end rfl ?_; refine xp_block rfl ?_
   -- LOOP
   have hl := hl.addG (g := gLi (.slice none 0 0) []) (.inl ⟨rfl, rfl, rfl⟩)
   refine xe_sub (L' := [(11, .int .i64 0), (10, .slice none ([] : List Int).length ([] : List Int).length), (1, .slice aL L.length capL), (2, .int .i64 n)]) ⟨rfl, rfl, rfl, rfl, trivial⟩ ?_
   refine xp_loop rfl (fun m Le S' => ∃ (i : Nat) (av : Option Addr) (O : List Int), i ≤ L.length ∧ m = L.length - i ∧ O.length ≤ i ∧ O ++ overI n (L.drop i) i = overI n L 0 ∧ SubE [(11, .int .i64 (i : Int)), (10, .slice av O.length O.length), (1, .slice aL L.length capL), (2, .int .i64 n)] Le ∧ HoldG S [S] S' [(B3, .cells [.string nm, .slice a C.length cap] 24 false true [])] [gLi (.slice av O.length O.length) O]) ?_ (m := L.length) ⟨0, none, [], by omega, by omega, Nat.le_refl _, rfl, ⟨rfl, rfl, rfl, rfl, trivial⟩, hl⟩
   clear hl; rintro m Le S' ⟨i, av, O, hi, rfl, hO, hpr, hsub, hl⟩; refine xe_sub hsub ?_
   refine xp_seq rfl ?_; refine xs (by kernel_rfl) ?_; iterate 2 refine rm rfl ?_
   refine rr rfl (rd_len rfl rfl (len_slice Tryz.underlying25)) ?_; refine rr rfl (rd_bin rfl rfl rfl rfl) ?_; refine re_end rfl ?_; refine xp_cond rfl rfl (fun h33 => ?_) (fun h33 => ?_)
   ·
    have hlt : i < L.length := by have := of_decide_eq_true h33; omega
    obtain ⟨x, hx⟩ := nth_some hlt
    obtain ⟨b1, o1, cs1, ha1, _, hrow1, htk1⟩ := hb.elem hx
    refine xp_skip rfl ?_; refine xp_seq rfl ?_; refine xp_block rfl ?_; refine xp_seq rfl (xe_toE hl 51 (.bool (decide (x.frm ≤ n) && decide (n ≤ x.upto))) ?_ rfl ?_)
    ·
     refine xg (by kernel_rfl) ?_; iterate 2 refine rm rfl ?_
     refine rr rfl (rd_indexAddr rfl rfl rfl (indexAddr_sl (z := 3) ha1 Tryz.underlying25 (by kernel_rfl) ⟨by omega, by omega⟩)) ?_; refine rr rfl (rd_fieldAddr rfl rfl (fa Tryz.underlying46 az46 rfl)) ?_; refine rr rfl (rd_load rfl rfl (load1_row (by kernel_rfl) (row_move (hl.since 0 rfl) hrow1) (tk_nth htk1 rfl))) ?_; refine rm rfl ?_; refine rr rfl (rd_bin rfl rfl rfl rfl) ?_; refine rm rfl ?_; refine re_bool (d := 43) rfl (fun h43 => ?_) (fun h43 => ?_)
     ·
      iterate 3 refine rm rfl ?_
      refine rr rfl (rd_indexAddr rfl rfl rfl (indexAddr_sl (z := 3) ha1 Tryz.underlying25 (by kernel_rfl) ⟨by omega, by omega⟩)) ?_; refine rr rfl (rd_fieldAddr rfl rfl (fa Tryz.underlying46 az46 rfl)) ?_; refine rr rfl (rd_load rfl rfl (load1_row (by kernel_rfl) (row_move (hl.since 0 rfl) hrow1) (tk_nth htk1 rfl))) ?_; refine rr rfl (rd_bin rfl rfl rfl rfl) ?_; refine rm rfl ?_; refine re_end rfl ?_
      exact ⟨rfl, bl (by first | (simp [h43]; done) | (simp only [h43, BLs])), by repeat (first | exact subL_refl _ | refine subL_skip rfl ?_), hl⟩
     ·
      iterate 7 refine rz rfl ?_
      refine rm rfl ?_; refine re_end rfl ?_
      exact ⟨rfl, bl (by first | (simp [h43]; done) | (simp only [h43, BLs])), by repeat (first | exact subL_refl _ | refine subL_skip rfl ?_), hl⟩
    intro S1 hl
    refine xp_cond rfl rfl (fun h51 => ?_) (fun h51 => ?_)
    ·
     refine xg (by kernel_rfl) ?_; iterate 2 refine rm rfl ?_
     refine re_buildSliceR hl rfl rfl rfl rfl rfl Tryz.underlying31 rfl (c := [iv (i : Int)]) (by kernel_rfl) ?_; intro B54 S1 hr54 hl; refine re_appendG hl 0 rfl rfl (by simp) rfl rfl rfl rfl rfl rfl rfl Tryz.underlying31 Tryz.underlying31 rfl rfl (by kernel_rfl) (src_row (new := [iv (i : Int)]) hr54 rfl) rfl rfl (by kernel_rfl) (by show O.length + 1 ≤ maxNeed; unfold maxNeed; omega) ?_; intro v55 S1 hl; refine rm rfl ?_; refine re_end rfl ?_; refine xg (by kernel_rfl) ?_; refine rm rfl ?_; refine rr rfl (rd_bin rfl rfl rfl (i6 (by omega))) ?_; refine rm rfl ?_; refine re_end rfl ?_
     obtain ⟨av2, ev⟩ : ∃ av2, v55 = .slice av2 (O.length + 1) (O.length + 1) := Grow.is (hl.gr _ (List.mem_cons_self ..))
     subst ev
     refine ⟨L.length - (i + 1), by omega, i + 1, av2, O ++ [((i : Nat) : Int)], by omega, rfl, by simp; omega, by rw [← hpr, over_y hx h51]; simp, ?_⟩
     simp only [gLi, List.length_append, List.length_singleton, List.map_append, List.map_cons, List.map_nil]
     exact ⟨⟨rfl, rfl, rfl, rfl, trivial⟩, hl⟩
    ·
     refine xp_skip rfl ?_; refine xg (by kernel_rfl) ?_; refine rm rfl ?_; refine rr rfl (rd_bin rfl rfl rfl (i6 (by omega))) ?_; refine rm rfl ?_; refine re_end rfl ?_
     exact ⟨L.length - (i + 1), by omega, i + 1, av, O, by omega, rfl, by omega, by rw [← hpr, over_n hx h51], ⟨rfl, rfl, rfl, rfl, trivial⟩, hl⟩
   ·
    refine xp_exit rfl ?_; refine xs (by kernel_rfl) ?_; iterate 3 refine rm rfl ?_
    refine re_end rfl ?_; refine xp_ret rfl ?_
    refine done_ret (ress_tmp rfl (ress_tmp rfl rfl)) ⟨hl.keep, over_res (O := O) (by rw [overE_3 h19 h29, ← hpr, List.drop_eq_nil_of_le (by have := of_decide_eq_false h33; omega)]; exact congrArg (fun z => (z, (0 : Int))) (List.append_nil O)) (growI' (hl.gr _ (List.mem_cons_self ..)))⟩
end Go.Proofs.YtkmhecihkckcmaaGreatDoor
namespace Go.Proofs.YtkmhecihkckcmaaGreatDoor
open Go.Cm Go
set_option maxRecDepth 100000
variable {S : St}
theorem cc_known {P : Program} {K : Known} {f : FuncId} {args : List Value} {S : St} {v : Value} (h : K.call f args S = some v) : CC P K f args S fun w S' => Keep S S' ∧ w = v := ⟨0, v, S, by unfold enterF; rw [h], Keep.refl S, rfl⟩
theorem flat3 : ∀ L : List Bk, ((L.map Bk.cells).flatten).length = L.length * 3
 | [] => rfl
 | x :: L => by rw [List.map_cons, List.flatten_cons, List.length_append, flat3 L, List.length_cons, Nat.add_mul, show x.cells.length = 3 from rfl]; omega
theorem flatCell3 : ∀ L : List Bk, ((L.map Bk.cells).flatten).all cellV = true
 | [] => rfl
 | x :: L => by rw [List.map_cons, List.flatten_cons, List.all_append, flatCell3 L, show x.cells.all cellV = true from rfl]; rfl
theorem growB {S0 S : St} {v : Value} {L : List Bk} (h : Grow S0 S ⟨v, 46, 3, [] ++ (L.map Bk.cells).flatten, 0 + L.length⟩) : Bks S v L := by
 rw [List.nil_append, Nat.zero_add] at h
 exact Grow.sliceAt (g := ⟨v, 46, 3, (L.map Bk.cells).flatten, L.length⟩) h (by simp) rfl (fun x hx => by
  obtain ⟨s, _, rfl⟩ := List.mem_map.1 hx
  rfl)
theorem samePart_self (n : List UInt8) (C : List Sg) : (sameBytes n n && decide (C = C)) = true := by rw [sameBytes_refl, decide_eq_true rfl]; rfl
noncomputable def c3 : Code := Tryz.f3.body.getD .skip
theorem spec3 (nm : ByteArray) (a : Option Addr) (cap : Nat) (C : List Sg) (aL : Option Addr) (capL : Nat) (L : List Bk) (n : Int) (hnm : nm.data.toList.length ≤ 9223372036854775807) (hG : Gl S) (hGc : Gc S) (hF : Fresh S) (hv : Signs S (.slice a C.length cap) C) (hb : Bks S (.slice aL L.length capL) L) : CC Tryz.prog KK 3 [aggL [.string nm, .slice a C.length cap], .slice aL L.length capL, .int .i64 n] S (fun v S' => Keep S S' ∧ v = .bool true) := by
 refine cc_enter (c := c3) (n := 89) Tryz.func3 rfl rfl rfl (by kernel_rfl) rfl rfl ?_
 have hl := Hold.start S
 refine xs (by kernel_rfl) ?_; refine re_boxL hl rfl rfl rfl rfl rfl rfl ?_; intro B3 S3 hl; refine rm rfl ?_; refine re_end rfl ?_; refine xe_sub (L' := [(3, ptrTo B3 0), (2, .int .i64 n), (1, .slice aL L.length capL)]) ⟨rfl, rfl, rfl, trivial⟩ ?_; refine xp_seq rfl ?_; refine xp_seq rfl (xe_toE hl 25 (.bool (decide ((C.length : Int) > 48) || decide ((L.length : Int) > 40))) ?_ rfl ?_)
 ·
  refine xg (by kernel_rfl) ?_; refine rr rfl (rd_fieldAddr rfl rfl (fa Tryz.underlying24 az24 rfl)) ?_; refine rr rfl (rl hl 0 rfl rfl (by kernel_rfl) rfl rfl) ?_; refine rr rfl (rd_len rfl rfl (len_slice Tryz.underlying22)) ?_; refine rr rfl (rd_bin rfl rfl rfl rfl) ?_; refine rm rfl ?_; refine re_bool (d := 21) rfl (fun h21 => ?_) (fun h21 => ?_)
  ·
   iterate 3 refine rz rfl ?_
   refine rm rfl ?_; refine re_end rfl ?_
   exact ⟨rfl, bl (by rw [h21]; rfl), by repeat (first | exact subL_refl _ | refine subL_skip rfl ?_), hl⟩
  ·
   refine rm rfl ?_; refine rr rfl (rd_len rfl rfl (len_slice Tryz.underlying25)) ?_; refine rr rfl (rd_bin rfl rfl rfl rfl) ?_; refine rm rfl ?_; refine re_end rfl ?_
   exact ⟨rfl, bl (by rw [h21]; rfl), by repeat (first | exact subL_refl _ | refine subL_skip rfl ?_), hl⟩
 intro S1 hl
 refine xp_cond rfl rfl (fun h25 => ?_) (fun h25 => ?_)
 ·
  refine xs (by kernel_rfl) ?_
  refine re_callL hl rfl rfl rfl rfl rfl rfl rfl (cc_known rfl) ?_; rintro v S1 hk1 rfl hl
  refine rm rfl ?_; refine re_end rfl ?_; refine xp_ret rfl ?_
  refine thn_ret (done_ret (ress_tmp rfl rfl) ⟨hl.keep, rfl⟩)
 ·
  have hn : C.length ≤ 48 := by simp at h25; omega
  have hL : L.length ≤ 40 := by simp at h25; omega
  refine xp_skip rfl ?_; refine xs (by kernel_rfl) ?_; refine rr rfl (rd_load rfl rfl (loadN_of (z := 2) (by kernel_rfl) (by kernel_rfl) (hl.get 0 rfl) rfl)) ?_
  refine re_callL hl rfl rfl rfl rfl rfl rfl rfl (spec5 nm a cap C (by omega) (hv.move (hl.since 0 rfl))) ?_; rintro v S1 hk1 ⟨az, cz, rfl, hz⟩ hl
  have hl := hl.mark
  refine re_buildSliceG hl (c := []) 3 rfl rfl rfl rfl rfl Tryz.underlying25 rfl (by kernel_rfl) rfl ?_; intro v29 S1 hl; refine rm rfl ?_
  have hb' := hb.move (hl.since 1 rfl)
  refine re_appendG hl 0 rfl rfl (by simp) rfl rfl rfl rfl rfl rfl rfl Tryz.underlying25 Tryz.underlying25 rfl rfl (by kernel_rfl) hb'.cells (flat3 L) (flatCell3 L) (by kernel_rfl) (by show 0 + L.length ≤ maxNeed; unfold maxNeed; omega) ?_; intro v31 S1 hl
  have hy := growB (hl.gr _ (List.mem_cons_self ..))
  obtain ⟨ay, cy, rfl⟩ := hy.is
  have hl := hl.mark
  refine re_allocL hl rfl rfl rfl rfl rfl (z := [.string ⟨#[]⟩, .slice none 0 0]) (by kernel_rfl) ?_; intro B7 S7 hl; refine re_storeL hl 0 rfl rfl rfl rfl rfl rfl rfl (by kernel_rfl) rfl ?_; intro S1 hl; refine rm rfl ?_; refine re_end rfl ?_; refine xs (by kernel_rfl) ?_; refine rr rfl (rd_load rfl rfl (loadN_of (z := 2) (by kernel_rfl) (by kernel_rfl) (hl.get 0 rfl) rfl)) ?_; refine rm rfl ?_
  refine re_callL hl rfl rfl rfl rfl rfl rfl rfl (spec6 nm az cz C ay cy L hnm (by omega) (by omega) (hG.keep hl.keep) (hGc.keep hl.keep) (hl.keep.3 hF) (hz.move (hl.since 1 rfl)) (hy.move (hl.since 0 rfl))) ?_; rintro v S1 hk1 rfl hl
  iterate 5 refine rm rfl ?_
  refine re_end rfl ?_; refine xs (by kernel_rfl) ?_; refine rr rfl (rd_load rfl rfl (loadN_of (z := 2) (by kernel_rfl) (by kernel_rfl) (hl.get 1 rfl) rfl)) ?_; refine rm rfl ?_
  refine re_callL hl rfl rfl rfl rfl rfl rfl rfl (spec7 nm a cap C aL capL L hnm (by omega) (by omega) (hl.keep.3 hF) (hv.move (hl.since 2 rfl)) (hb.move (hl.since 2 rfl))) ?_; rintro v S1 hk1 rfl hl
  iterate 5 refine rm rfl ?_
  refine re_end rfl ?_; refine xs (by kernel_rfl) ?_; refine rr rfl (rd_load rfl rfl (loadN_of (z := 2) (by kernel_rfl) (by kernel_rfl) (hl.get 0 rfl) rfl)) ?_; iterate 2 refine rm rfl ?_
  refine re_callL hl rfl rfl rfl rfl rfl rfl rfl (spec8 nm az cz C ay cy L n hnm (by omega) (by omega) (hG.keep hl.keep) (hGc.keep hl.keep) (hl.keep.3 hF) (hz.move (hl.since 1 rfl)) (hy.move (hl.since 0 rfl))) ?_; rintro v S1 hk1 ⟨w1, rfl, hw1⟩ hl
  obtain ⟨wa1, wc1, rfl⟩ := hw1.is
  have hl := hl.mark
  iterate 5 refine rm rfl ?_
  refine re_end rfl ?_; refine xs (by kernel_rfl) ?_; refine rr rfl (rd_load rfl rfl (loadN_of (z := 2) (by kernel_rfl) (by kernel_rfl) (hl.get 1 rfl) rfl)) ?_; iterate 2 refine rm rfl ?_
  refine re_callL hl rfl rfl rfl rfl rfl rfl rfl (spec9 nm a cap C aL capL L n hnm (by omega) (by omega) (hl.keep.3 hF) (hv.move (hl.since 3 rfl)) (hb.move (hl.since 3 rfl))) ?_; rintro v S1 hk1 ⟨w2, rfl, hw2⟩ hl
  obtain ⟨wa2, wc2, rfl⟩ := hw2.is
  have hl := hl.mark
  iterate 5 refine rm rfl ?_
  refine re_end rfl ?_; refine xp_seq rfl (xe_toE hl 6 (.bool true) ?_ rfl ?_)
  ·
   refine xg (by kernel_rfl) ?_; iterate 2 refine rm rfl ?_
   refine rr rfl (rd_bin rfl rfl rfl rfl) ?_; refine rm rfl ?_; refine re_bool (d := 61) rfl (fun h61 => ?_) (fun h61 => ?_)
   ·
    iterate 2 refine rm rfl ?_
    refine rr rfl (rd_bin rfl rfl rfl rfl) ?_; iterate 2 refine rm rfl ?_
    refine re_bool (d := 66) rfl (fun h66 => ?_) (fun h66 => ?_)
    ·
     iterate 2 refine rm rfl ?_
     refine rr rfl (rd_bin rfl rfl rfl rfl) ?_; iterate 2 refine rm rfl ?_
     refine re_bool (d := 71) rfl (fun h71 => ?_) (fun h71 => ?_)
     ·
      iterate 2 refine rm rfl ?_
      refine re_callL hl rfl rfl rfl rfl rfl rfl rfl (spec10 wa1 wa2 wc1 wc2 (overE nm.data.toList C L n).1 (overE nm.data.toList C L n).1 (by have := overE_len nm.data.toList C L n; omega) (hw1.move (hl.since 1 rfl)) (hw2.move (hl.since 0 rfl))) ?_; rintro v S1 hk1 rfl hl
      iterate 2 refine rm rfl ?_
      refine re_bool (d := 76) rfl (fun h76 => ?_) (fun h76 => ?_)
      ·
       refine rr rfl (rd_load rfl rfl (loadN_of (z := 2) (by kernel_rfl) (by kernel_rfl) (hl.get 0 rfl) rfl)) ?_; refine rr rfl (rd_load rfl rfl (loadN_of (z := 2) (by kernel_rfl) (by kernel_rfl) (hl.get 1 rfl) rfl)) ?_
       refine re_callL hl rfl rfl rfl rfl rfl rfl rfl (spec11 nm nm az a cz cap C C (by omega) (hz.move (hl.since 3 rfl)) (hv.move (hl.since 4 rfl))) ?_; rintro v S1 hk1 rfl hl
       iterate 2 refine rm rfl ?_
       refine re_bool (d := 81) rfl (fun h81 => ?_) (fun h81 => ?_)
       ·
        iterate 2 refine rm rfl ?_
        refine re_callL hl rfl rfl rfl rfl rfl rfl rfl (spec12 ay aL cy capL L L (by omega) (hy.move (hl.since 2 rfl)) (hb.move (hl.since 4 rfl))) ?_; rintro v S1 hk1 rfl hl
        iterate 2 refine rm rfl ?_
        refine re_bool (d := 86) rfl (fun h86 => ?_) (fun h86 => ?_)
        ·
         refine re_callL hl rfl rfl rfl rfl rfl rfl rfl (cc_known rfl) ?_; rintro v S1 hk1 rfl hl
         iterate 2 refine rm rfl ?_
         refine re_end rfl ?_
         exact ⟨rfl, bl (by first | rfl | (rw [samePart_self] at h86; cases h86) | (simp at h86)), by repeat (first | exact subL_refl _ | refine subL_skip rfl ?_), hl⟩
        ·
         refine rz rfl ?_; iterate 2 refine rm rfl ?_
         refine re_end rfl ?_
         exact ⟨rfl, bl (by first | rfl | (rw [samePart_self] at h86; cases h86) | (simp at h86)), by repeat (first | exact subL_refl _ | refine subL_skip rfl ?_), hl⟩
       ·
        iterate 3 refine rz rfl ?_
        iterate 2 refine rm rfl ?_
        refine rz rfl ?_; iterate 2 refine rm rfl ?_
        refine re_end rfl ?_
        exact ⟨rfl, bl (by first | rfl | (rw [samePart_self] at h81; cases h81) | (simp at h81)), by repeat (first | exact subL_refl _ | refine subL_skip rfl ?_), hl⟩
      ·
       iterate 3 refine rz rfl ?_
       iterate 2 refine rm rfl ?_
       iterate 3 refine rz rfl ?_
       iterate 2 refine rm rfl ?_
       refine rz rfl ?_; iterate 2 refine rm rfl ?_
       refine re_end rfl ?_
       exact ⟨rfl, bl (by first | rfl | (rw [samePart_self] at h76; cases h76) | (simp at h76)), by repeat (first | exact subL_refl _ | refine subL_skip rfl ?_), hl⟩
     ·
      iterate 3 refine rz rfl ?_
      iterate 2 refine rm rfl ?_
      iterate 3 refine rz rfl ?_
      iterate 2 refine rm rfl ?_
      iterate 3 refine rz rfl ?_
      iterate 2 refine rm rfl ?_
      refine rz rfl ?_; iterate 2 refine rm rfl ?_
      refine re_end rfl ?_
      exact ⟨rfl, bl (by first | rfl | (rw [samePart_self] at h71; cases h71) | (simp at h71)), by repeat (first | exact subL_refl _ | refine subL_skip rfl ?_), hl⟩
    ·
     iterate 3 refine rz rfl ?_
     iterate 2 refine rm rfl ?_
     iterate 3 refine rz rfl ?_
     iterate 2 refine rm rfl ?_
     iterate 3 refine rz rfl ?_
     iterate 2 refine rm rfl ?_
     iterate 3 refine rz rfl ?_
     iterate 2 refine rm rfl ?_
     refine rz rfl ?_; iterate 2 refine rm rfl ?_
     refine re_end rfl ?_
     exact ⟨rfl, bl (by first | rfl | (rw [samePart_self] at h66; cases h66) | (simp at h66)), by repeat (first | exact subL_refl _ | refine subL_skip rfl ?_), hl⟩
   ·
    iterate 3 refine rz rfl ?_
    iterate 2 refine rm rfl ?_
    iterate 3 refine rz rfl ?_
    iterate 2 refine rm rfl ?_
    iterate 3 refine rz rfl ?_
    iterate 2 refine rm rfl ?_
    iterate 3 refine rz rfl ?_
    iterate 2 refine rm rfl ?_
    iterate 3 refine rz rfl ?_
    iterate 2 refine rm rfl ?_
    refine rz rfl ?_; iterate 2 refine rm rfl ?_
    refine re_end rfl ?_
    exact ⟨rfl, bl (by first | rfl | (rw [samePart_self] at h61; cases h61) | (simp at h61)), by repeat (first | exact subL_refl _ | refine subL_skip rfl ?_), hl⟩
  intro S1 hl
  refine xp_ret rfl ?_
  refine done_ret (ress_tmp rfl rfl) ⟨hl.keep, rfl⟩
end Go.Proofs.YtkmhecihkckcmaaGreatDoor
namespace Go.Proofs.YtkmhecihkckcmaaGreatDoor
open Go.Cm Go
set_option maxRecDepth 100000
variable {S : St}
theorem known_M {W : World} (h : Met W) : KnownSound Tryz.prog KK W := by
 refine ⟨ext_sound _, fun f args S v hv => ?_⟩
 simp only [KK, kk, callM] at hv
 split at hv
 ·cases hb : Nat.beq f 4 with
  | true =>
   rw [hb] at hv
   cases hv
   obtain rfl := of_nbeq hb
   exact ⟨fun ρ => .bool _, Tryz.f4, _, Tryz.func4, bdA4, by kernel_rfl, zeroKnown fun w hk => true_A (met_later hk h)⟩
  | false =>
   rw [hb] at hv
   cases hv
 ·cases hv
theorem globals3 : Tryz.prog.globals.size = 3 := by kernel_rfl
theorem start_gl : Gl (startS listed Tryz.prog.globals.size) :=
 ⟨Nat.le_of_ble_eq_true (show Nat.ble (1 + 1) Tryz.prog.globals.size = true by kernel_rfl), by kernel_rfl⟩
theorem start_gc : Gc (startS listed Tryz.prog.globals.size) :=
 ⟨Nat.le_of_ble_eq_true (show Nat.ble (0 + 1) Tryz.prog.globals.size = true by kernel_rfl), by kernel_rfl⟩
theorem start_fresh : Fresh (startS listed Tryz.prog.globals.size) := by
 intro b hb
 cases h : (startS listed Tryz.prog.globals.size).get b with
 | none => rfl
 | some B =>
  obtain ⟨l, hl, _⟩ := start_get Tryz.prog.globals.size listed b B h
  have hb' : 3 ≤ b := globals3 ▸ hb
  rcases listed_eq b l hl with ⟨rfl, _⟩ | ⟨rfl, _⟩ | ⟨rfl, _⟩ <;> omega
theorem vr_agg {ρ : Rmap} {x y : Value} {v : Value} (h : VRs ρ [x, y] v.cells.toList) : VR ρ (aggL [x, y]) v := by
 cases v with
 | agg cs => exact .agg h.1 h.2
 | _ => exact absurd h.1 (by simp [Value.cells])
theorem rep_str {c : List Value} {n : Nat} {t : TypeId} (h : Rep Tryz.prog (n + 1) t S c) (hu : Tryz.prog.underlying t = some .string) : ∃ s : ByteArray, c = [.string s] ∧ s.data.toList.length ≤ 9223372036854775807 := by
 unfold Rep at h
 rw [hu] at h
 obtain ⟨s, h, h2⟩ := h
 refine ⟨s, h, ?_⟩
 rw [Array.length_toList]
 have h3 : s.data.size ≤ maxLen := h2
 unfold maxLen at h3
 omega
theorem rep_part {c : List Value} {n : Nat} (h : Rep Tryz.prog (n + 5) 24 S c) : ∃ (nm : ByteArray) (a : Option Addr) (cap : Nat) (C : List Sg), c = [.string nm, .slice a C.length cap] ∧ nm.data.toList.length ≤ 9223372036854775807 ∧ Signs S (.slice a C.length cap) C := by
 have hl0 := rep_len h Tryz.underlying24 (z := 2) (by kernel_rfl)
 obtain ⟨x0, r0, rfl, hl1⟩ := uncons hl0
 obtain ⟨x1, r1, rfl, hl2⟩ := uncons hl1
 obtain rfl := List.length_eq_zero_iff.1 hl2
 obtain ⟨nm, e0, hnm⟩ := rep_str (rep_field h Tryz.underlying24 (j := 0) (z := 1) rfl (by kernel_rfl)) Tryz.underlying9
 obtain ⟨v, C, e1, h1, hC⟩ := rep_slice (rep_field h Tryz.underlying24 (j := 1) (z := 1) rfl (by kernel_rfl)) Tryz.underlying22 (z := 17) (by kernel_rfl)
 obtain ⟨L, rfl⟩ := all_signs fun x hx => rep_sign (hC x hx)
 have hs : Signs S v L := h1
 obtain ⟨a, cap, rfl⟩ := hs.is
 cases e0; cases e1
 exact ⟨nm, a, cap, L, rfl, hnm, hs⟩
theorem rep_bk {c : List Value} {n : Nat} (h : Rep Tryz.prog (n + 2) 46 S c) : ∃ x : Bk, c = x.cells := by
 have hl0 := rep_len h Tryz.underlying46 (z := 3) (by kernel_rfl)
 obtain ⟨x0, r0, rfl, hl1⟩ := uncons hl0
 obtain ⟨x1, r1, rfl, hl2⟩ := uncons hl1
 obtain ⟨x2, r2, rfl, hl3⟩ := uncons hl2
 obtain rfl := List.length_eq_zero_iff.1 hl3
 obtain ⟨a0, e0⟩ := rep_int (rep_field h Tryz.underlying46 (j := 0) (z := 1) rfl (by kernel_rfl)) Tryz.underlying3
 obtain ⟨a1, e1⟩ := rep_int (rep_field h Tryz.underlying46 (j := 1) (z := 1) rfl (by kernel_rfl)) Tryz.underlying3
 obtain ⟨a2, e2⟩ := rep_int (rep_field h Tryz.underlying46 (j := 2) (z := 1) rfl (by kernel_rfl)) Tryz.underlying3
 cases e0; cases e1; cases e2
 exact ⟨⟨a0, a1, a2⟩, rfl⟩
theorem all_bks : ∀ {C : List (List Value)}, (∀ x, x ∈ C → ∃ s : Bk, x = s.cells) → ∃ L : List Bk, C = L.map Bk.cells
 | [], _ => ⟨[], rfl⟩
 | x :: C, h => by
  obtain ⟨s, e1⟩ := h x (List.mem_cons_self ..)
  obtain ⟨L, e2⟩ := all_bks (C := C) fun y hy => h y (List.mem_cons_of_mem _ hy)
  exact ⟨s :: L, by rw [e1, e2]; rfl⟩
theorem rep_bks {c : List Value} {n : Nat} (h : Rep Tryz.prog (n + 3) 25 S c) : ∃ (aL : Option Addr) (capL : Nat) (L : List Bk), c = [.slice aL L.length capL] ∧ Bks S (.slice aL L.length capL) L := by
 obtain ⟨v, C, e1, h1, hC⟩ := rep_slice h Tryz.underlying25 (z := 3) (by kernel_rfl)
 obtain ⟨L, rfl⟩ := all_bks fun x hx => rep_bk (hC x hx)
 have hs : Bks S v L := h1
 obtain ⟨a, cap, rfl⟩ := hs.is
 exact ⟨a, cap, L, e1, hs⟩
theorem joinPB {W : World} (hm : Met W) {H : Type} {enc : TypeId × Value → H} {v1 : Value} {a' : Option Addr} {len' cap' : Nat} {m : Int} {d1 d2 : DataW H} {p1 p2 : List MemPlace}
  (h1 : DataW.Trod enc Tryz.prog W 0 (fun _ => true) true 24 v1 d1 p1) (h2 : DataW.Trod enc Tryz.prog W 0 (fun _ => true) true 25 (.slice a' len' cap') d2 p2)
  {f : FuncId} {fn : Func} {c : Code} (hf : Tryz.prog.funcs[f]? = some fn) (hb : fn.body = some c) (hnm : (fn.name == "runtime.NumGoroutine") = false)
  (spec : ∀ (S : St) (nm : ByteArray) (a : Option Addr) (cap : Nat) (C : List Sg) (aL : Option Addr) (capL : Nat) (L : List Bk), nm.data.toList.length ≤ 9223372036854775807 → Fresh S → Gl S → Gc S → Signs S (.slice a C.length cap) C → Bks S (.slice aL L.length capL) L →
   CC Tryz.prog KK f [aggL [.string nm, .slice a C.length cap], .slice aL L.length capL, .int .i64 m] S fun v _ => v = .bool true) :
  Calls Tryz.prog f #[v1, .slice a' len' cap', .int .i64 m] W fun e w => e = .returned (.bool true) ∧ Kept W w := by
 obtain ⟨fuel1, h1⟩ := h1
 obtain ⟨fuel2, h2⟩ := h2
 have hsim := start_sim (P := Tryz.prog) (size_le hm) hm listed_flat
 obtain ⟨ρ1, S1, c1, x1, s1, k1, r1, q1⟩ := lay (P := Tryz.prog) (w0 := ⟨W, fun _ => false⟩) 7 24 fuel1 _ _ _ (by kernel_rfl) (fun _ => rfl) h1 _ _ hsim
 obtain ⟨ρ2, S2, c2, x2, s2, k2, r2, q2⟩ := lay (P := Tryz.prog) (w0 := ⟨W, fun _ => false⟩) 7 25 fuel2 _ _ _ (by kernel_rfl) (fun _ => rfl) h2 _ _ s1
 obtain ⟨nm, a, cap, C, rfl, hn1, hs1⟩ := rep_part (n := 2) (q1.keep k2)
 obtain ⟨aL, capL, L, rfl, hs2⟩ := rep_bks (n := 4) q2
 have k12 := k1.trans k2
 refine (calls_of_cc follows (known_M hm) hf hb hnm s2 (args' := #[v1, .slice a' len' cap', .int .i64 m]) (VRs.cons (vr_agg (r1.mono x2)) (VRs.cons (VRs.head r2) (VRs.cons (.int _ _) VRs.nil))) (spec S2 nm a cap C aL capL L hn1 (k12.3 start_fresh) (start_gl.keep k12) (start_gc.keep k12) hs1 hs2)).mono ?_
 rintro e w ⟨v, ρ', v', hv, hr, he, hk⟩
 subst hv
 cases hr
 exact ⟨he, hk⟩
end Go.Proofs.YtkmhecihkckcmaaGreatDoor
namespace Go.Proofs.YtkmhecihkckcmaaGreatDoor
open Go.Cm Go
set_option maxRecDepth 100000
variable {S : St}
open Go.ChangeShapes Go.WideShapes Go.ChangeAt Go.RowKit
theorem own_none : ownKnob Tryz.prog.godebug = none := by kernel_rfl
theorem _root_.Go.Cm.Kept.but {W w : World} (h : Kept W w) (may : MemPlace → Prop) : W.keptBut w may := by
 refine ⟨h.os, h.out, fun i hi => ?_⟩
 rw [h.old i hi]
 cases W.heap[i]? with
 | none => rfl
 | some o => cases o <;> first | exact ⟨rfl, rfl, rfl, fun _ _ => rfl⟩ | exact .inr ⟨rfl, rfl⟩ | rfl
theorem post_true {H : Type} {enc : TypeId × Value → H} {P : Program} {f : Func} {s : ChangeSpec} {apart fresh handsOn : Bool} {W W' : World} {args : Array Value} {ds gs : List (DataW H)} {before pa pv : List MemPlace} {t : TypeId}
  (hr : f.resultTypes = #[t]) (ht : P.underlying t = some .bool) (hs : (s.fn H (ds ++ gs)).results = [.lit (.bool true)])
  (hW : DataW.Whole enc P f.params.toList s.vars apart W args.toList ds gs before) (hk : Kept W W')
  (hargs : DataW.TrodAll enc P W' 0 (fun b => decide (b < W.heap.size)) true f.params.toList args.toList (s.fn H (ds ++ gs)).args pa)
  (hvars : DataW.TrodVars enc P W' (fun b => decide (b < W.heap.size)) s.vars (s.fn H (ds ++ gs)).vars pv) : s.post enc P f apart fresh handsOn false W args (.bool true) W' := by
 refine ⟨ds, gs, before, [], pa, pv, hW, ?_, hargs, hvars, hk.but _, fun h => by cases h⟩
 rw [hr, hs]
 exact trodAll_mk1 (shut_bool ht _)
def holds (l : List Value) : Obj → Obj
 | .cells _ t frozen => .cells l.toArray t frozen
 | o => o
noncomputable def laidHeap (h : Array Obj) : Array Obj := (((h).modify 0 (holds of0)).modify 1 (holds of1)).modify 2 (holds of2)
noncomputable def laidWorld (os : Os) : World :=
 { World.holding Tryz.prog os ⟨#[], #[], []⟩ with heap := laidHeap (World.holding Tryz.prog os ⟨#[], #[], []⟩).heap }
def za : Array Value := #[.agg #[.string ⟨#[]⟩, .slice none 0 0], .slice none 0 0, .int .i64 0]
def zd {H : Type} : List (DataW H) := [.agg [.lit (.string []), .nil], .nil, .lit (.int .i64 0)]
theorem laid_met (os : Os) : laidMet Tryz.prog Rows.bracketChecksRow.laid ((laidWorld os).forCall (fun _ _ => 0) ⟨#[], za, []⟩).memory :=
 laidMet_of_run' 8 (by kernel_rfl) (by kernel_rfl)
theorem reads (os : Os) {H : Type} (enc : TypeId × Value → H) : ∃ places, DataW.whole enc Tryz.prog ((laidWorld os).forCall (fun _ _ => 0) ⟨#[], za, []⟩).memory Tryz.f3.params.toList Rows.bracketChecksSpec.vars false za.toList 8 = some (zd, [], places) :=
 ⟨[], by kernel_rfl⟩
theorem laids : Laids Rows.bracketChecksRow.laid := by
 refine ⟨?_, ?_, ?_⟩
 all_goals
  show _ ∈ [_, _, _]
  simp only [List.mem_cons, true_or, or_true]
theorem paramsM : Tryz.f3.params = #[24, 25, 3] := by kernel_rfl
theorem contract (H : Type) (enc : TypeId × Value → H) (W : World) (base : Nat) (args : Array Value) (ds gs : List (DataW H)) (before : List MemPlace)
  (hval : ∀ (j : Nat) t v, Tryz.f3.params[j]? = some t → args[j]? = some v → Value.okWide Tryz.prog W .any base t v)
  (hW : DataW.Whole enc Tryz.prog Tryz.f3.params.toList Rows.bracketChecksSpec.vars false W args.toList ds gs before) (hL : laidMetH Tryz.prog Rows.bracketChecksRow.laid W) :
  Calls Tryz.prog 3 args W fun e W' => ∃ v, e = .returned v ∧ Rows.bracketChecksSpec.post enc Tryz.prog Tryz.f3 false true false false W args v W' := by
 have hW' := hW
 obtain ⟨p, q, hA0, hV, rfl, hfz, hnd⟩ := hW
 have hA : DataW.TrodAll enc Tryz.prog W 0 (fun _ => true) true Tryz.f3.params.toList args.toList ds p := hA0
 rw [paramsM] at hA hval
 obtain ⟨v1, v2, v3, d1, d2, d3, p1, p2, p3, rfl, rfl, rfl, h1, h2, h3⟩ := trodAll_three hA
 obtain ⟨rfl, rfl⟩ := trodVars_none hV
 obtain ⟨a', len', cap', rfl⟩ := okWide_slice Tryz.underlying25 (hval 1 25 v2 rfl rfl)
 obtain ⟨m, rfl⟩ := okWide_int Tryz.underlying3 (hval 2 3 v3 rfl rfl)
 clear hA0
 refine (joinPB (listed_met laids hL) h1 h2 Tryz.func3 (c := c3) (by kernel_rfl) (by kernel_rfl) (fun S nm a cap C aL capL L hnm hF hG hGc hv hb => cc_mono (spec3 nm a cap C aL capL L m hnm hG hGc hF hv hb) fun v S' h => h.2)).mono fun e W' ⟨he, hk⟩ => ?_
 subst he
 refine ⟨_, rfl, post_true (pa := p1 ++ p2 ++ p3) (pv := []) (t := 4) (by kernel_rfl) (by kernel_rfl) rfl hW' hk ?_ ?_⟩
 ·rw [paramsM]
  exact retrodAll hk 7 _ _ _ _ (by kernel_rfl) hA
 ·exact rfl
theorem lifted (os : Os) (started : os.Started) (H : Type) (enc : TypeId × Value → H) (F : Stop.Interp) :
  ReturnsInHanded {} Tryz.checked os 3 .any ((OpenSpec.ofChange Rows.bracketChecksSpec).preRow enc Tryz.prog Tryz.f3 Rows.bracketChecksRow.domain false Rows.bracketChecksRow.laid) (((OpenSpec.ofChange Rows.bracketChecksSpec).at F).post enc Tryz.prog Tryz.f3 false true false false) := by
 obtain ⟨places, hx⟩ := reads os enc
 refine returnsInHanded_of_row (C := Tryz.checked) (s := OpenSpec.ofChange Rows.bracketChecksSpec) own_none started (by kernel_rfl) Tryz.func3
  (witness_row_at (enc := enc) (C := Tryz.checked) false (laidWorld os) za rfl (by kernel_rfl) (by kernel_rfl) (by kernel_rfl)
   (OpenSpec.preRow_of_cond 8 hx (by kernel_rfl) (fun k hk => by cases hk) (by kernel_rfl) (laid_met os))) ?_
 intro W base args ds gs before hval hW _ _ _ hL _ _
 exact contract H enc W base args ds gs before hval hW hL
theorem said : Rows.BracketChecksSaid :=
 OpenClaim.holds_of_cond 3 Tryz.f3 rfl rfl rfl rfl rfl rfl rfl ⟨rfl, rfl, rfl, rfl, rfl⟩ rfl rfl rfl rfl rfl (by kernel_rfl) Tryz.func3 joined'
  (of_decide_eq_true (by kernel_rfl)) (by unfold Func.isWrapper; first | (rw [if_pos (by decide +kernel)]; kernel_rfl) | (rw [if_neg (by decide +kernel)]; exact ⟨rfl, rfl⟩))
  (fun os started H enc _ F => by rw [OpenClaim.pre_eq_preRow]; exact lifted os started H enc F)
theorem plain (f : FuncId) (fn : Func) (hf : Tryz.pinned.checked.prog.funcNamed "tactus/tactuslaw34.BracketChecks" = some f) (hfn : Tryz.pinned.checked.prog.funcs[f]? = some fn) :
  true = Tryz.pinned.checked.prog.looks [] ∧ ∀ (j : Nat) t, fn.params[j]? = some t → Tryz.pinned.checked.prog.wantsStandIn t = false := by
 obtain rfl : f = 3 := Option.some.inj ((show Tryz.prog.funcNamed "tactus/tactuslaw34.BracketChecks" = some 3 by kernel_rfl).symm.trans hf) |>.symm
 obtain rfl : fn = Tryz.f3 := (Option.some.inj (Tryz.func3.symm.trans hfn)).symm
 refine ⟨by kernel_rfl, fun j t ht => ?_⟩
 rw [paramsM] at ht
 have hmem := Array.mem_of_getElem? ht
 obtain rfl | rfl | rfl : t = 24 ∨ t = 25 ∨ t = 3 := by simpa using hmem
 ·exact (show Tryz.prog.wantsStandIn 24 = false by kernel_rfl)
 ·exact (show Tryz.prog.wantsStandIn 25 = false by kernel_rfl)
 ·exact (show Tryz.prog.wantsStandIn 3 = false by kernel_rfl)
theorem card : Rows.BracketChecksCardSaid :=
 Claim7.holds_tied_plain_at .later [] _ _ _ _ said (fun _ h => by cases h) (by kernel_rfl) (fun _ h => by cases h) bracketChecks_row_tie rfl ⟨rfl, rfl⟩ (by kernel_rfl) rfl plain (by kernel_rfl)
end Go.Proofs.YtkmhecihkckcmaaGreatDoor

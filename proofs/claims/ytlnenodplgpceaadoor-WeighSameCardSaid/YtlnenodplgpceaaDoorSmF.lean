/-
  dissonance.Count. weigh.Of. The law. The plain law, 1. The plain law, 2. The plain law, 3. The plain law, 4. The plain law, 5.
-/
import Derived.Test.YtlnenodplgpceaaDoorSmE
namespace Go.Proofs.YtlnenodplgpceaaDoor
open Go.Cm Go
set_option maxRecDepth 100000
variable {S : St}
noncomputable def c13 : Code := Tryd.f13.body.getD .skip
theorem spec13 (aV : Option Addr) (cV : Nat) (V : List (List Ev)) (hF : Fresh S) (hG : Gl S) (hv : Vs S (.slice aV V.length cV) V) : CC Tryd.prog KK 13 [.slice aV V.length cV] S (fun v S' => Keep S S' ∧ ∃ w, v = tupV [w, .int .i64 (cnE V).2] ∧ Ints S' w (cnE V).1) := by
 refine cc_enter (c := c13) (n := 34) Tryd.func13 rfl rfl rfl (by kernel_rfl) rfl rfl ?_
 have hl := Hold.start S
 refine xs (by kernel_rfl) ?_; iterate 2 refine rm rfl ?_
 refine re_end rfl ?_; refine xs (by kernel_rfl) ?_; refine rm rfl ?_
 refine re_callL hl rfl rfl rfl rfl rfl rfl rfl (spec24 aV cV V (hl.keep.3 hF) (hG.keep hl.keep) (hv.move (hl.since 0 rfl))) ?_; have hl0 := hl; rintro v Sm hk1 ⟨av, rfl, hw⟩ hl; obtain ⟨A, hA⟩ : ∃ A, A = (dsA V).1 := ⟨_, rfl⟩; have hok := dsA_ok (V := V); rw [← hA] at hw hok ⊢; obtain ⟨fr, hl, hw⟩ := Grow.own (f := Ds.cells) (fun _ => rfl) hl0 hk1 hw; have hl : HoldG S [S] Sm fr [] := hl
 iterate 5 refine rm rfl ?_
 refine re_end rfl ?_; refine xp_seq rfl ?_; refine xs (by kernel_rfl) ?_; refine rm rfl ?_; refine rr rfl (rd_bin rfl rfl rfl rfl) ?_; refine re_end rfl ?_; refine xp_cond rfl rfl (fun h15 => ?_) (fun h15 => ?_)
 ·
  refine xs (by kernel_rfl) ?_; iterate 3 refine rm rfl ?_
  refine re_end rfl ?_; refine xp_ret rfl ?_
  refine thn_ret (done_ret (ress_tmp rfl (ress_tmp rfl rfl)) ⟨hl.keep, ⟨_, by rw [cn_1 h15] <;> rfl, by rw [cn_1 h15]; exact LsOf.nil⟩⟩)
 ·
  refine xp_skip rfl ?_; refine xs (by kernel_rfl) ?_; refine re_makeSliceK hl rfl rfl rfl rfl rfl rfl rfl rfl rfl Tryd.underlying22 (z := .int .i64 0) (by kernel_rfl) (by kernel_rfl) (by decide) ?_; intro B17 S1 hl; refine rm rfl ?_; refine re_end rfl ?_; refine xp_seq rfl ?_; refine xs (by kernel_rfl) ?_; refine rm rfl ?_; refine rr rfl (rd_len rfl rfl (len_slice Tryd.underlying68)) ?_; refine rm rfl ?_; refine re_end rfl ?_; refine xp_block rfl ?_
  -- LOOP
  refine xe_sub (L' := [(20, .int .i64 0), (19, .int .i64 (A.length : Int)), (18, .slice av A.length A.length), (6, .slice (some ⟨B17, 0, none⟩) 4 4), (3, .int .i64 0), (2, .slice none 0 0)]) ⟨rfl, rfl, rfl, rfl, rfl, rfl, trivial⟩ ?_
  refine xp_loop rfl (fun m Le S' => ∃ (i : Nat) (O : List Int), i ≤ A.length ∧ m = A.length - i ∧ COk O i ∧ cntG (A.drop i) O = cntG A z4 ∧ SubE [(20, .int .i64 (i : Int)), (19, .int .i64 (A.length : Int)), (18, .slice av A.length A.length), (6, .slice (some ⟨B17, 0, none⟩) 4 4), (3, .int .i64 0), (2, .slice none 0 0)] Le ∧ HoldG S [S] S' ((B17, .cells ((O.map ic).flatten) 3 true true []) :: fr) []) ?_ (m := A.length) ⟨0, z4, by omega, rfl, z4_ok, rfl, ⟨rfl, rfl, rfl, rfl, rfl, rfl, trivial⟩, hl⟩
  clear hl; rintro m Le S' ⟨i, O, hi, rfl, hO, hp, hsub, hl⟩; refine xe_sub hsub ?_
  refine xs (by kernel_rfl) ?_; refine rr rfl (rd_bin rfl rfl rfl rfl) ?_; refine re_end rfl ?_; refine xp_seq rfl ?_; refine xp_cond rfl rfl (fun h21 => ?_) (fun h21 => ?_)
  ·
   have hlt : i < A.length := by have := of_decide_eq_true h21; omega
   obtain ⟨x, hx⟩ := nth_some hlt
   obtain ⟨b1, o1, cs1, ha, _, hrow, htk⟩ := (hw hl (fun p hp => List.mem_cons_of_mem _ hp)).elem hx
   have hxt := hok.2 x (nth_mem hx)
   have hO4 := hO.1
   obtain ⟨d, hd⟩ := nth_some (l := O) (i := (x.t - 1).toNat) (by omega)
   have hdb := hO.2 d (nth_mem hd)
   have hup : upC O x = O.set (x.t - 1).toNat (d + 1) := by unfold upC; rw [hd]; rfl
   rw [drop_nth' hx, cntG, hup] at hp
   have hup2 := hO.up (x := x)
   rw [hup] at hup2
   refine xp_skip rfl ?_; refine xp_seq rfl ?_; refine xp_block rfl ?_; refine xs (by kernel_rfl) ?_; refine rr rfl (rd_indexAddr rfl rfl rfl (indexAddr_sl (z := 5) ha Tryd.underlying68 (by kernel_rfl) ⟨by omega, by omega⟩)) ?_; refine rr rfl (rd_load rfl rfl (loadN_row (z := 5) (by kernel_rfl) (by kernel_rfl) hrow htk)) ?_; refine re_allocL hl rfl rfl rfl rfl rfl (z := [.int .i64 0, .int .i64 0, .int .i64 0, .int .i64 0, .int .i64 0]) (by kernel_rfl) ?_; intro B8 S8 hl; refine re_storeL hl 0 rfl rfl rfl rfl rfl rfl rfl (by kernel_rfl) rfl ?_; intro S1 hl; refine re_end rfl ?_
   refine xg (by kernel_rfl) ?_; refine rm rfl ?_; refine rr rfl (rd_fieldAddr rfl rfl (fa Tryd.underlying72 az72 rfl)) ?_; refine rr rfl (rl hl 0 rfl rfl (by kernel_rfl) rfl rfl) ?_; refine rr rfl (rd_bin rfl rfl rfl (i6 (by omega))) ?_; refine rr rfl (rd_indexAddr rfl rfl rfl (indexAddr_slice (z := 1) Tryd.underlying22 (by kernel_rfl) ⟨by omega, by omega⟩)) ?_; refine rr rfl (rd_load rfl rfl (load1_of (by kernel_rfl) (hl.get 1 rfl) (tk_nth (j := 0) (flat_take (f := ic) (fun _ => rfl) hd) rfl))) ?_; refine rr rfl (rd_bin rfl rfl rfl (i6 (by omega))) ?_
   refine rr rfl (rd_indexAddr rfl rfl rfl (indexAddr_slice (z := 1) Tryd.underlying22 (by kernel_rfl) ⟨by omega, by omega⟩)) ?_; refine re_storeR hl 1 rfl rfl rfl rfl rfl rfl rfl (by kernel_rfl) (setN_rowI (f := ic) (z := 1) (j := 0) (k := x.t - 1) (i := (x.t - 1).toNat) (fun _ => rfl) (by omega) hd rfl (y := d + 1) rfl) ?_; intro S1 hl; refine re_end rfl ?_; refine xg (by kernel_rfl) ?_; refine rr rfl (rd_bin rfl rfl rfl (i6 (by omega))) ?_; refine rm rfl ?_; refine re_end rfl ?_
   exact ⟨A.length - (i + 1), by omega, i + 1, O.set (x.t - 1).toNat (d + 1), by omega, rfl, hup2, hp, ⟨rfl, rfl, rfl, rfl, rfl, rfl, trivial⟩, hl.tail⟩
  ·
   refine xp_exit rfl ?_; refine xs (by kernel_rfl) ?_; iterate 3 refine rm rfl ?_
   refine re_end rfl ?_; refine xp_ret rfl ?_
   refine done_ret (ress_tmp rfl (ress_tmp rfl rfl)) ⟨hl.keep, by rw [cn_2 h15, ← hA]; rw [List.drop_eq_nil_of_le (by have := of_decide_eq_false h21; omega)] at hp; have hp : O = cntG A z4 := hp; rw [← hp]; exact ⟨_, rfl, LsOf.row (f := ic) (C := O) (fun _ => rfl) (own_mem hl (List.mem_cons_self ..)) hO.1.symm⟩⟩
end Go.Proofs.YtlnenodplgpceaaDoor
namespace Go.Proofs.YtlnenodplgpceaaDoor
open Go.Cm Go
set_option maxRecDepth 100000
variable {S : St}
def sumI (l : List Int) : Int := l.foldl (· + ·) 0
def ofE (V : List (List Ev)) : (Int × Int × Int) × Int := bif (fnE V).2 != 0 then ((0, 0, 0), (fnE V).2) else bif (cnE V).2 != 0 then ((0, 0, 0), (cnE V).2) else ((((fnE V).1.length : Int), (nth (cnE V).1 3).getD 0, sumI ((cnE V).1.take 3)), 0)
def wtV (w : Int × Int × Int) : Value := aggL [.int .i64 w.1, .int .i64 w.2.1, .int .i64 w.2.2]
theorem of_1 {V : List (List Ev)} (h : ((fnE V).2 != 0) = true) : ofE V = ((0, 0, 0), (fnE V).2) := by unfold ofE; rw [h]; rfl
theorem of_2 {V : List (List Ev)} (h : ((fnE V).2 != 0) = false) (h2 : ((cnE V).2 != 0) = true) : ofE V = ((0, 0, 0), (cnE V).2) := by unfold ofE; rw [h, h2]; rfl
theorem of_3 {V : List (List Ev)} {d0 d1 d2 d3 : Int} (h : ((fnE V).2 != 0) = false) (h2 : ((cnE V).2 != 0) = false) (hC : (cnE V).1 = [d0, d1, d2, d3]) : ofE V = ((((fnE V).1.length : Int), d3, sumI [d0, d1, d2]), 0) := by unfold ofE; rw [h, h2, hC]; rfl
theorem four {l : List Int} (h : l.length = 4) : ∃ a b c d, l = [a, b, c, d] := by
 match l, h with
 | [a, b, c, d], _ => exact ⟨a, b, c, d, rfl⟩
theorem sum_step {l : List Int} {i : Nat} {x : Int} (hx : nth l i = some x) : sumI (l.take (i + 1)) = sumI (l.take i) + x := by
 unfold sumI
 rw [take_nth' hx, List.foldl_append]
 rfl
theorem pc_is {S1 S2 : St} {V : List (List Ev)} {v : Value} (h : (((fnE V).2 ≠ 0 ∧ v = tupV [.slice none 0 0, .int .i64 (fnE V).2]) ∨ ((fnE V).2 = 0 ∧ ∃ b c1 c2 c3, v = tupV [.slice (some ⟨b, 0, none⟩) 4 4, .int .i64 0] ∧ S1.size ≤ b ∧ b < S2.size ∧ S2.get b = some (.cells (c4 ((fnE V).1.length : Int) c1 c2 c3) 65 false true [])))) : ∃ w, v = tupV [w, .int .i64 (fnE V).2] ∧ (((fnE V).2 != 0) = false → ∃ b c1 c2 c3, w = .slice (some ⟨b, 0, none⟩) 4 4 ∧ S1.size ≤ b ∧ b < S2.size ∧ S2.get b = some (.cells (c4 ((fnE V).1.length : Int) c1 c2 c3) 65 false true [])) := by
 rcases h with ⟨h1, rfl⟩ | ⟨h1, b, c1, c2, c3, rfl, h2⟩
 ·exact ⟨_, rfl, fun h => absurd (by simpa using h) h1⟩
 ·exact ⟨_, by rw [h1], fun _ => ⟨b, c1, c2, c3, rfl, h2⟩⟩
noncomputable def c5_ : Code := Tryd.f5.body.getD .skip
theorem spec5 (a : Option Addr) (cap : Nat) (V : List (List Ev)) (hF : Fresh S) (hG : Gl S) (hv : Vs S (.slice a V.length cap) V) : CC Tryd.prog KK 5 [.slice a V.length cap] S (fun v S' => Keep S S' ∧ v = tupV [wtV (ofE V).1, .int .i64 (ofE V).2]) := by
 refine cc_enter (c := c5_) (n := 49) Tryd.func5 rfl rfl rfl (by kernel_rfl) rfl rfl ?_
 have hl := Hold.start S
 refine xs (by kernel_rfl) ?_; refine re_allocL hl rfl rfl rfl rfl rfl (z := [.int .i64 0, .int .i64 0, .int .i64 0]) (by kernel_rfl) ?_; intro B2 S2 hl; refine rm rfl ?_; refine re_end rfl ?_; refine xs (by kernel_rfl) ?_; refine rm rfl ?_
 refine re_callL hl rfl rfl rfl rfl rfl rfl rfl (spec12 a cap V (hl.keep.3 hF) (hG.keep hl.keep) (hv.move (hl.since 0 rfl))) ?_; have hbel := hl.below; have hk0 := hl.keep; rintro v S1 hk1 hq hl; obtain ⟨w, rfl, hw⟩ := pc_is hq
 iterate 5 refine rm rfl ?_
 refine re_end rfl ?_; refine xp_seq rfl ?_; refine xs (by kernel_rfl) ?_; refine rm rfl ?_; refine rr rfl (rd_bin rfl rfl rfl rfl) ?_; refine re_end rfl ?_; refine xp_cond rfl rfl (fun h16 => ?_) (fun h16 => ?_)
 ·
  refine xs (by kernel_rfl) ?_; refine rr rfl (rd_build rfl rfl (v := aggL [.int .i64 0, .int .i64 0, .int .i64 0]) (by rfl)) ?_; refine rm rfl ?_; refine re_storeL hl 0 rfl rfl rfl rfl rfl rfl rfl (by kernel_rfl) rfl ?_; intro S1 hl; refine rm rfl ?_; refine re_end rfl ?_; refine xp_ret rfl ?_
  refine thn_ret (done_ret (ress_cell rfl (loadN_of (z := 3) (by kernel_rfl) (by kernel_rfl) (hl.get 0 rfl) rfl) (ress_tmp rfl rfl)) ⟨hl.keep, by rw [of_1 h16] <;> rfl⟩)
 ·
  obtain ⟨b, m1, m2, m3, rfl, hb1, hb2, hb3⟩ := hw h16
  have hl := hl.addLast hbel hk0 hb1 hb2 hb3
  refine xp_skip rfl ?_; refine xs (by kernel_rfl) ?_; refine rm rfl ?_
  refine re_callL hl rfl rfl rfl rfl rfl rfl rfl (spec13 a cap V (hl.keep.3 hF) (hG.keep hl.keep) (hv.move (hl.since 0 rfl))) ?_; rintro v Sc hk2 ⟨w2, rfl, hw2⟩ hl; have hl := hl.mark
  iterate 5 refine rm rfl ?_
  refine re_end rfl ?_; refine xp_seq rfl ?_; refine xs (by kernel_rfl) ?_; refine rm rfl ?_; refine rr rfl (rd_bin rfl rfl rfl rfl) ?_; refine re_end rfl ?_; refine xp_cond rfl rfl (fun h25 => ?_) (fun h25 => ?_)
  ·
   refine xs (by kernel_rfl) ?_; refine rr rfl (rd_build rfl rfl (v := aggL [.int .i64 0, .int .i64 0, .int .i64 0]) (by rfl)) ?_; refine rm rfl ?_; refine re_storeL hl 0 rfl rfl rfl rfl rfl rfl rfl (by kernel_rfl) rfl ?_; intro S1 hl; refine rm rfl ?_; refine re_end rfl ?_; refine xp_ret rfl ?_
   refine thn_ret (done_ret (ress_cell rfl (loadN_of (z := 3) (by kernel_rfl) (by kernel_rfl) (hl.get 0 rfl) rfl) (ress_tmp rfl rfl)) ⟨hl.keep, by rw [of_2 h16 h25] <;> rfl⟩)
  ·
   have hok := cn_ok h25
   obtain ⟨d0, d1, d2, d3, hC⟩ := four hok.1
   have hbd := hok.2
   rw [hC] at hw2 hbd
   obtain ⟨a2, k2, rfl⟩ := LsOf.is hw2
   obtain ⟨b4, o4, cs4, ha4, _, hrow4, htk4⟩ := hw2.elem (k := 3) rfl
   refine xp_skip rfl ?_; refine xp_seq rfl ?_; refine xp_draw (idx := [0, 1, 2, 3, 4, 5, 6, 7, 8]) rfl (by kernel_rfl) (by kernel_rfl) ?_; refine pm rfl ?_; refine pr rfl (rd_indexAddr rfl rfl rfl (indexAddr_slice (z := 1) Tryd.underlying22 (by kernel_rfl) ⟨by decide, by decide⟩)) ?_; refine pk rfl (rd_load rfl rfl (load1_of (v := .int .i64 ((fnE V).1.length : Int)) (by kernel_rfl) (hl.get 1 rfl) rfl)) ?_; refine pm rfl ?_; refine pr rfl (rd_indexAddr rfl rfl rfl (indexAddr_sl (z := 1) ha4 Tryd.underlying22 (by kernel_rfl) ⟨by omega, by show (3 : Int) < 4; omega⟩)) ?_
   refine pk rfl (rd_load rfl rfl (load1_row (by kernel_rfl) (row_move (hl.since 0 rfl) hrow4) (tk_nth (j := 0) htk4 rfl))) ?_; refine pr rfl (rd_build rfl rfl (v := aggL [.int .i64 ((fnE V).1.length : Int), .int .i64 d3, .int .i64 0]) (by rfl)) ?_; refine rp_allocL hF hl rfl rfl rfl rfl rfl (z := [.int .i64 0, .int .i64 0, .int .i64 0]) (by kernel_rfl) ?_; intro B7 S7 hl
   refine rp_storeL hl 0 rfl rfl rfl rfl rfl rfl rfl (by kernel_rfl) rfl ?_; intro S1 hl; refine ⟨stays_all (by kernel_rfl), ?_⟩
   refine rp_end rfl ?_; refine xp_seq rfl ?_; refine xs (by kernel_rfl) ?_; refine rm rfl ?_
   obtain ⟨v36, hsl, ⟨k3, rfl⟩, hw3⟩ := SliceAt.front (P := Tryd.prog) (kk := .i64) (k := 3) (hw2.move (hl.since 0 rfl)) Tryd.underlying22 (by kernel_rfl) (by show 3 < 4; omega)
   have hl := hl.mark
   refine rr rfl (rd_slice rfl rfl rfl rfl rfl hsl) ?_; refine rr rfl (rd_len rfl rfl (len_slice Tryd.underlying22)) ?_; refine rm rfl ?_; refine re_end rfl ?_; refine xp_block rfl ?_
   -- LOOP
   refine xe_sub (L' := [(38, .int .i64 0), (37, .int .i64 3), (36, .slice a2 3 k3), (7, ptrTo B7 0), (3, .int .i64 0), (2, ptrTo B2 0)]) ⟨rfl, rfl, rfl, rfl, rfl, rfl, trivial⟩ ?_
   refine xp_loop rfl (fun m Le S' => ∃ (i : Nat), i ≤ 3 ∧ m = 3 - i ∧ (0 ≤ sumI ([d0, d1, d2].take i) ∧ sumI ([d0, d1, d2].take i) ≤ 1280000 * i) ∧ SubE [(38, .int .i64 (i : Int)), (37, .int .i64 3), (36, .slice a2 3 k3), (7, ptrTo B7 0), (3, .int .i64 0), (2, ptrTo B2 0)] Le ∧ HoldG S [S1, Sc, S] S' [(B7, .cells [.int .i64 ((fnE V).1.length : Int), .int .i64 d3, .int .i64 (sumI ([d0, d1, d2].take i))] 27 false true []), (B2, .cells [.int .i64 0, .int .i64 0, .int .i64 0] 27 false true []), (b, .cells (c4 ((fnE V).1.length : Int) m1 m2 m3) 65 false true [])] []) ?_ (m := 3) ⟨0, by omega, rfl, ⟨Int.le_refl _, Int.le_refl _⟩, ⟨rfl, rfl, rfl, rfl, rfl, rfl, trivial⟩, hl⟩
   clear hl; rintro m Le S' ⟨i, hi, rfl, hs, hsub, hl⟩; refine xe_sub hsub ?_
   refine xs (by kernel_rfl) ?_; refine rr rfl (rd_bin rfl rfl rfl rfl) ?_; refine re_end rfl ?_; refine xp_seq rfl ?_; refine xp_cond rfl rfl (fun h39 => ?_) (fun h39 => ?_)
   ·
    have hlt : i < 3 := by have := of_decide_eq_true h39; omega
    obtain ⟨x, hx⟩ := nth_some (l := [d0, d1, d2]) hlt
    obtain ⟨b5, o5, cs5, ha5, _, hrow5, htk5⟩ := LsOf.elem (C := [d0, d1, d2]) (f := ic) hw3 hx
    have hx2 := hbd x (by have := nth_mem hx; simp at this ⊢; omega)
    have hst := sum_step hx
    refine xp_skip rfl ?_; refine xp_seq rfl ?_; refine xp_block rfl ?_; refine xs (by kernel_rfl) ?_; refine rr rfl (rd_indexAddr rfl rfl rfl (indexAddr_sl (z := 1) ha5 Tryd.underlying22 (by kernel_rfl) ⟨by omega, by omega⟩)) ?_; refine rr rfl (rd_load rfl rfl (load1_row (by kernel_rfl) (row_move (hl.since 0 rfl) hrow5) (tk_nth (j := 0) htk5 rfl))) ?_; refine rm rfl ?_; refine re_end rfl ?_; refine xg (by kernel_rfl) ?_; refine rr rfl (rd_fieldAddr rfl rfl (fa Tryd.underlying27 az27 rfl)) ?_; refine rr rfl (rl hl 0 rfl rfl (by kernel_rfl) rfl rfl) ?_; refine rm rfl ?_
    refine rr rfl (rd_bin rfl rfl rfl (i6 (by omega))) ?_; refine rr rfl (rd_fieldAddr rfl rfl (fa Tryd.underlying27 az27 rfl)) ?_; refine re_storeL hl 0 rfl rfl rfl rfl rfl rfl rfl (by kernel_rfl) rfl ?_; intro S1 hl; refine re_end rfl ?_; refine xg (by kernel_rfl) ?_; refine rr rfl (rd_bin rfl rfl rfl (i6 (by omega))) ?_; refine rm rfl ?_; refine re_end rfl ?_
    exact ⟨3 - (i + 1), by omega, i + 1, by omega, rfl, by rw [hst]; omega, ⟨rfl, rfl, rfl, rfl, rfl, rfl, trivial⟩, by rw [hst]; exact hl⟩
   ·
    refine xp_exit rfl ?_; refine xs (by kernel_rfl) ?_; refine rr rfl (rd_load rfl rfl (loadN_of (z := 3) (by kernel_rfl) (by kernel_rfl) (hl.get 0 rfl) rfl)) ?_; refine re_storeL hl 1 rfl rfl rfl rfl rfl rfl rfl (by kernel_rfl) rfl ?_; intro S1 hl; refine rm rfl ?_; refine re_end rfl ?_; refine xp_ret rfl ?_
    obtain rfl : i = 3 := by have := of_decide_eq_false h39; omega
    refine done_ret (ress_cell rfl (loadN_of (z := 3) (by kernel_rfl) (by kernel_rfl) (hl.get 1 rfl) rfl) (ress_tmp rfl rfl)) ⟨hl.keep, by rw [of_3 h16 h25 hC] <;> rfl⟩
end Go.Proofs.YtlnenodplgpceaaDoor
namespace Go.Proofs.YtlnenodplgpceaaDoor
open Go.Cm Go
set_option maxRecDepth 100000
variable {S : St}
theorem cc_known {P : Program} {K : Known} {f : FuncId} {args : List Value} {S : St} {v : Value} (h : K.call f args S = some v) : CC P K f args S fun w S' => Keep S S' ∧ w = v := ⟨0, v, S, by unfold enterF; rw [h], Keep.refl S, rfl⟩
def ChV : List Ev → Nat → Nat → Prop
 | [], _, _ => True
 | x :: r, i, s => ∃ n : Int, (0 ≤ n ∧ n < 3969) ∧ x = voEv i (sx s) n ∧ ChV r (i + 1) (s + (duX n).2)
theorem voG_ch : ∀ (C : List Int) (k i s : Nat), ChV (voG C k i s) i s
 | [], _, _, _ => trivial
 | _ :: _, 0, _, _ => trivial
 | x :: r, k + 1, i, s => ⟨modE x 3969, modE_bd x (by decide), rfl, voG_ch r k (i + 1) _⟩
def sxB : Bool := (List.range 289).all fun s => decide (0 ≤ (sx s).n) && decide ((sx s).n ≤ 300) && decide (1 ≤ (sx s).d) && decide ((sx s).d ≤ 6) && (tE (sx s) == 0)
theorem sxB_ok : sxB = true := by decide +kernel
theorem sx_bd {s : Nat} (hs : s < 289) : (0 ≤ (sx s).n ∧ (sx s).n ≤ 300) ∧ (1 ≤ (sx s).d ∧ (sx s).d ≤ 6) ∧ tE (sx s) = 0 := by
 have h := sxB_ok
 unfold sxB at h
 rw [List.all_eq_true] at h
 have h := h s (List.mem_range.2 hs)
 simp only [Bool.and_eq_true, decide_eq_true_eq, beq_iff_eq] at h
 exact ⟨⟨h.1.1.1.1, h.1.1.1.2⟩, ⟨h.1.1.2, h.1.2⟩, h.2⟩
theorem vo_at {i : Nat} {u : Ti} {n : Int} : (voEv i u n).at_ = u := by
 cases h : (n.tdiv 567 == 6) with
 | true => rw [vo_1 h]
 | false => rw [vo_2 h]
theorem ch_ok : ∀ {V : List Ev} {i s : Nat}, ChV V i s → s + 36 * V.length ≤ 288 → ∀ x, x ∈ V → (firstE [x.at_, x.dur] != 0) = false
 | [], _, _, _, _, x, hx => (List.not_mem_nil hx).elim
 | y :: r, i, s, ⟨n, hn, hy, hr⟩, hs, x, hx => by
  rw [List.length_cons] at hs
  have hf := du_fact (s := s) (by omega) hn.1
  rcases List.mem_cons.1 hx with rfl | hx
  ·rw [hy, vo_at, vo_dur, hf.2.1]; rfl
  ·exact ch_ok hr (by omega) x hx
theorem eo_cons {x y : Ev} {r : List Ev} : eoT (x :: y :: r) = eoT (y :: r) := rfl
theorem ch_end : ∀ {V : List Ev} {i s : Nat}, ChV V i s → s + 36 * V.length ≤ 288 → V ≠ [] → ∃ s2, s2 ≤ 288 ∧ eoT V = sx s2
 | [], _, _, _, _, h => absurd rfl h
 | [x], i, s, ⟨n, hn, hx, _⟩, hs, _ => by
  rw [List.length_cons, List.length_nil] at hs
  have hf := du_fact (s := s) (by omega) hn.1
  refine ⟨s + (duX n).2, by omega, ?_⟩
  show plT x.at_ x.dur = _
  rw [hx, vo_at, vo_dur, hf.1]
 | x :: y :: r, i, s, ⟨n, hn, hx, hr⟩, hs, _ => by
  rw [List.length_cons] at hs
  have hf := du_fact (s := s) (by omega) hn.1
  rw [eo_cons]
  exact ch_end hr (by omega) (by simp)
theorem vo_end_bd (X : List Int) : (0 ≤ (eoT (voE X)).n ∧ (eoT (voE X)).n ≤ 300) ∧ 1 ≤ (eoT (voE X)).d ∧ (eoT (voE X)).d ≤ 6 := by
 have hc : ChV (voE X) 0 0 := voG_ch X 8 0 0
 have hl : (voE X).length ≤ 8 := voG_len X 8 0 0
 by_cases hn : voE X = []
 ·rw [hn]; decide
 ·obtain ⟨s2, h1, h2⟩ := ch_end hc (by omega) hn
  rw [h2]
  have := sx_bd (s := s2) (by omega)
  exact ⟨this.1, this.2.1⟩
theorem vo_hok (X : List Int) : ∀ x, x ∈ voE X → (firstE [x.at_, x.dur] != 0) = false := ch_ok (voG_ch X 8 0 0) (by have : (voE X).length ≤ 8 := voG_len X 8 0 0; omega)
def eM (E1 E2 : Ti) : Ti := bif decide (E2.n * E1.d > E1.n * E2.d) then E2 else E1
theorem eM_1 {E1 E2 : Ti} (h : decide (E2.n * E1.d > E1.n * E2.d) = true) : eM E1 E2 = E2 := by unfold eM; rw [h]; rfl
theorem eM_2 {E1 E2 : Ti} (h : decide (E2.n * E1.d > E1.n * E2.d) = false) : eM E1 E2 = E1 := by unfold eM; rw [h]; rfl
def reE (e : Ti) : Ev := ⟨zT, e, p0, true, 0, 0⟩
def reV (e : Ti) : List Ev := bif decide (e.n > 0) then [reE e] else []
theorem re_1 {e : Ti} (h : decide (e.n > 0) = true) : reV e = [reE e] := by unfold reV; rw [h]; rfl
theorem re_2 {e : Ti} (h : decide (e.n > 0) = false) : reV e = [] := by unfold reV; rw [h]; rfl
theorem mul_bd2 {a b : Int} (ha : 0 ≤ a ∧ a ≤ 300) (hb : 1 ≤ b ∧ b ≤ 6) : 0 ≤ a * b ∧ a * b ≤ 1800 := by
 obtain ⟨hb1, hb2⟩ := hb
 refine ⟨Int.mul_nonneg ha.1 (by omega), ?_⟩
 have h1 : a * b ≤ 300 * b := Int.mul_le_mul_of_nonneg_right ha.2 (by omega)
 omega
def stN (n : Int) : Int := bif modE n 2 == 0 then 7 else -7
theorem st_at (n : Int) : nth [Value.int .i64 7, .int .i64 (-7)] (0 + (modE n 2).toNat * 1) = some (.int .i64 (stN n)) := by
 have h := modE_bd n (n := 2) (by decide)
 unfold stN
 obtain e | e : modE n 2 = 0 ∨ modE n 2 = 1 := by omega
 ·rw [e]; rfl
 ·rw [e]; rfl
def wsG (V1 V2 : List Ev) (n : Int) : Bool :=
 bif (ofE [V1, V2]).2 != 0 then (ofE [V1, V2]).2 == 4
 else bif ((ofE [V1, V2, reV (eM (eoT V1) (eoT V2))]).2 != 0) || !decide ((ofE [V1, V2, reV (eM (eoT V1) (eoT V2))]).1 = (ofE [V1, V2]).1) then false
 else bif ((mvVE V1 (stN n)).2 != 0) || ((mvVE V2 (stN n)).2 != 0) then true
 else ((ofE [(mvVE V1 (stN n)).1, (mvVE V2 (stN n)).1]).2 == 0) && decide ((ofE [(mvVE V1 (stN n)).1, (mvVE V2 (stN n)).1]).1 = (ofE [V1, V2]).1)
section
variable {V1 V2 : List Ev} {n : Int} {Q1 Q2 Q3 : (Int × Int × Int) × Int} {P1 P2 : List Ev × Int}
theorem ws_1 (h1 : Q1 = ofE [V1, V2]) (h : (Q1.2 != 0) = true) : wsG V1 V2 n = (Q1.2 == 4) := by unfold wsG; rw [← h1, h]; rfl
theorem ws_2 (h1 : Q1 = ofE [V1, V2]) (h : (Q1.2 != 0) = false) (h2 : Q2 = ofE [V1, V2, reV (eM (eoT V1) (eoT V2))]) (h3 : ((Q2.2 != 0) || !decide (Q2.1 = Q1.1)) = true) : wsG V1 V2 n = false := by unfold wsG; rw [← h1, h, ← h2, h3]; rfl
theorem ws_3 (h1 : Q1 = ofE [V1, V2]) (h : (Q1.2 != 0) = false) (h2 : Q2 = ofE [V1, V2, reV (eM (eoT V1) (eoT V2))]) (h3 : ((Q2.2 != 0) || !decide (Q2.1 = Q1.1)) = false) (h4 : P1 = mvVE V1 (stN n)) (h5 : P2 = mvVE V2 (stN n)) (h6 : ((P1.2 != 0) || (P2.2 != 0)) = true) : wsG V1 V2 n = true := by unfold wsG; rw [← h1, h, ← h2, h3, ← h4, ← h5, h6]; rfl
theorem ws_4 (h1 : Q1 = ofE [V1, V2]) (h : (Q1.2 != 0) = false) (h2 : Q2 = ofE [V1, V2, reV (eM (eoT V1) (eoT V2))]) (h3 : ((Q2.2 != 0) || !decide (Q2.1 = Q1.1)) = false) (h4 : P1 = mvVE V1 (stN n)) (h5 : P2 = mvVE V2 (stN n)) (h6 : ((P1.2 != 0) || (P2.2 != 0)) = false) (h7 : Q3 = ofE [P1.1, P2.1]) : wsG V1 V2 n = ((Q3.2 == 0) && decide (Q3.1 = Q1.1)) := by unfold wsG; rw [← h1, h, ← h2, h3, ← h4, ← h5, h6, ← h7]; rfl
end
theorem flat_sing : ∀ ws : List Value, (ws.map fun w => [w]).flatten = ws
 | [] => rfl
 | x :: r => congrArg (x :: ·) (flat_sing r)
theorem vs_of {S : St} {b : Nat} {ws : List Value} {V : List (List Ev)} {n : Nat} (hr : RowAt S b 23 ws) (hn : n = ws.length) (hl : ws.length = V.length) (h : ∀ k w x, nth ws k = some w → nth V k = some x → Evs S w x) : Vs S (.slice (some ⟨b, 0, none⟩) n n) V :=
 ⟨ws, LsOf.row (f := fun w => [w]) (fun _ => rfl) (by rw [flat_sing]; exact hr) hn, hl, h⟩
theorem vs_two {S : St} {b : Nat} {w1 w2 : Value} {V1 V2 : List Ev} (hr : RowAt S b 23 [w1, w2]) (h1 : Evs S w1 V1) (h2 : Evs S w2 V2) : Vs S (.slice (some ⟨b, 0, none⟩) 2 2) [V1, V2] :=
 vs_of hr rfl rfl fun k w x hw hx => by
  match k, hw, hx with
  | 0, hw, hx => cases hw; cases hx; exact h1
  | 1, hw, hx => cases hw; cases hx; exact h2
  | k + 2, hw, hx => cases k <;> cases hw
theorem vs_three {S : St} {b : Nat} {w1 w2 w3 : Value} {V1 V2 V3 : List Ev} (hr : RowAt S b 23 [w1, w2, w3]) (h1 : Evs S w1 V1) (h2 : Evs S w2 V2) (h3 : Evs S w3 V3) : Vs S (.slice (some ⟨b, 0, none⟩) 3 3) [V1, V2, V3] :=
 vs_of hr rfl rfl fun k w x hw hx => by
  match k, hw, hx with
  | 0, hw, hx => cases hw; cases hx; exact h1
  | 1, hw, hx => cases hw; cases hx; exact h2
  | 2, hw, hx => cases hw; cases hx; exact h3
  | k + 3, hw, hx => cases k <;> cases hw
theorem eqWt (s r : Int × Int × Int) : eqV Tryd.prog eqDepth 27 (wtV s) (wtV r) = some (decide (s = r)) := by
 have h : eqV Tryd.prog 40 27 (aggL [.int .i64 s.1, .int .i64 s.2.1, .int .i64 s.2.2]) (aggL [.int .i64 r.1, .int .i64 r.2.1, .int .i64 r.2.2]) = _ := eq_struct Tryd.underlying27 (by kernel_rfl) (eqFields_cons (by kernel_rfl) (part1 (by kernel_rfl) rfl) (part1 (by kernel_rfl) rfl) (eq_int Tryd.underlying3) (eqFields_cons (by kernel_rfl) (part1 (by kernel_rfl) rfl) (part1 (by kernel_rfl) rfl) (eq_int Tryd.underlying3) (eqFields_cons (by kernel_rfl) (part1 (by kernel_rfl) rfl) (part1 (by kernel_rfl) rfl) (eq_int Tryd.underlying3) rfl)))
 refine h.trans (congrArg some ?_)
 obtain ⟨a1, a2, a3⟩ := s
 obtain ⟨b1, b2, b3⟩ := r
 rw [Bool.eq_iff_iff]
 simp
theorem neWt (xo yo : Operand) (s r : Int × Int × Int) : binV Tryd.prog .neq 27 xo yo (wtV s) (wtV r) = some (.bool (!decide (s = r))) := bin_ne (by kernel_rfl) (eqWt s r)
theorem isWt (xo yo : Operand) (s r : Int × Int × Int) : binV Tryd.prog .eql 27 xo yo (wtV s) (wtV r) = some (.bool (decide (s = r))) := bin_eq (by kernel_rfl) (eqWt s r)
noncomputable def c3_ : Code := Tryd.f3.body.getD .skip
theorem spec3 (ax ay : Option Addr) (cx cy : Nat) (X Y : List Int) (n : Int) (hF : Fresh S) (hG : Gl S) (hx : Ints S (.slice ax X.length cx) X) (hy : Ints S (.slice ay Y.length cy) Y) : CC Tryd.prog KK 3 [.slice ax X.length cx, .slice ay Y.length cy, .int .i64 n] S (fun v S' => Keep S S' ∧ v = .bool (wsG (voE X) (voE Y) n)) := by
 refine cc_enter (c := c3_) (n := 132) Tryd.func3 rfl rfl rfl (by kernel_rfl) rfl rfl ?_
 have hl := Hold.start S
 have hb1 := vo_end_bd X
 have hb2 := vo_end_bd Y
 have hk1 := vo_hok X
 have hk2 := vo_hok Y
 have hl1 : (voE X).length ≤ 8 := voG_len X 8 0 0
 have hl2 : (voE Y).length ≤ 8 := voG_len Y 8 0 0
 obtain ⟨V1, hV1⟩ : ∃ V, V = voE X := ⟨_, rfl⟩
 obtain ⟨V2, hV2⟩ : ∃ V, V = voE Y := ⟨_, rfl⟩
 rw [← hV1] at hb1 hk1 hl1 ⊢
 rw [← hV2] at hb2 hk2 hl2 ⊢
 refine xs (by kernel_rfl) ?_; refine rm rfl ?_; refine re_end rfl ?_; refine xs (by kernel_rfl) ?_; refine rm rfl ?_
 refine re_callL hl rfl rfl rfl rfl rfl rfl rfl (spec4 ax cx X (hl.keep.3 hF) (hx.move (hl.since 0 rfl))) ?_; have hl0 := hl; rintro v S1 hka ⟨a1, rfl, hg1⟩ hla; rw [← hV1] at hg1 ⊢; obtain ⟨fr1, hl, hw1⟩ := Grow.own (f := Ev.cells) (fun _ => rfl) hl0 hka hg1; have hl : HoldG S [S] S1 fr1 [] := hl
 refine rm rfl ?_
 refine re_callL hl rfl rfl rfl rfl rfl rfl rfl (spec4 ay cy Y (hl.keep.3 hF) (hy.move (hl.since 0 rfl))) ?_; have hl0 := hl; rintro v S1 hkb ⟨a2, rfl, hg2⟩ hlb; rw [← hV2] at hg2 ⊢; obtain ⟨fr2, hl, hw2⟩ := Grow.own (f := Ev.cells) (fun _ => rfl) hl0 hkb hg2
 refine re_buildSliceB hl rfl rfl rfl rfl rfl Tryd.underlying25 rfl (c := [.slice a1 V1.length V1.length, .slice a2 V2.length V2.length]) (by kernel_rfl) ?_; intro B26 S1 hl
 obtain ⟨FR, hFR⟩ : ∃ FR, FR = (B26, Blk.cells [.slice a1 V1.length V1.length, .slice a2 V2.length V2.length] 23 true true []) :: (fr1 ++ fr2) := ⟨_, rfl⟩
 have hr26 : ∀ {T : St} {Ts : List St} {l2 : List (Nat × Blk)} {gs : List Gr}, HoldG S Ts T l2 gs → (∀ p, p ∈ FR → p ∈ l2) → RowAt T B26 23 [.slice a1 V1.length V1.length, .slice a2 V2.length V2.length] := fun hT hm => own_mem hT (hm _ (by rw [hFR]; exact List.mem_cons_self ..))
 have he1 : ∀ {T : St} {Ts : List St} {l2 : List (Nat × Blk)} {gs : List Gr}, HoldG S Ts T l2 gs → (∀ p, p ∈ FR → p ∈ l2) → Evs T (.slice a1 V1.length V1.length) V1 := fun hT hm => hw1 hT fun p hp => hm p (by rw [hFR]; exact List.mem_cons_of_mem _ (List.mem_append_left _ hp))
 have he2 : ∀ {T : St} {Ts : List St} {l2 : List (Nat × Blk)} {gs : List Gr}, HoldG S Ts T l2 gs → (∀ p, p ∈ FR → p ∈ l2) → Evs T (.slice a2 V2.length V2.length) V2 := fun hT hm => hw2 hT fun p hp => hm p (by rw [hFR]; exact List.mem_cons_of_mem _ (List.mem_append_right _ hp))
 rw [← hFR] at hl
 clear hFR
 refine rm rfl ?_; refine re_end rfl ?_; refine xs (by kernel_rfl) ?_; refine rm rfl ?_
 refine re_callL hl rfl rfl rfl rfl rfl rfl rfl (spec5 (some ⟨B26, 0, none⟩) 2 [V1, V2] (hl.keep.3 hF) (hG.keep hl.keep) (vs_two (hr26 hl (fun p hp => hp)) (he1 hl (fun p hp => hp)) (he2 hl (fun p hp => hp)))) ?_; rintro v S1 hkc rfl hl; obtain ⟨Q1, hQ1⟩ : ∃ Q, Q = ofE [V1, V2] := ⟨_, rfl⟩; rw [← hQ1]
 iterate 3 refine rm rfl ?_
 refine re_allocL hl rfl rfl rfl rfl rfl (z := [.int .i64 0, .int .i64 0, .int .i64 0]) (by kernel_rfl) ?_; intro B8 S8 hl; refine re_storeL hl 0 rfl rfl rfl rfl rfl rfl rfl (by kernel_rfl) rfl ?_; intro S1 hl; refine rm rfl ?_; refine re_end rfl ?_; refine xp_seq rfl ?_; refine xs (by kernel_rfl) ?_; refine rm rfl ?_; refine rr rfl (rd_bin rfl rfl rfl rfl) ?_; refine re_end rfl ?_; refine xp_cond rfl rfl (fun h33 => ?_) (fun h33 => ?_)
 ·
  refine xe_sub (L' := [(9, .int .i64 Q1.2)]) ⟨rfl, trivial⟩ ?_; refine xp_seq rfl (xe_toE hl 6 (.bool (Q1.2 == 4)) ?_ rfl ?_)
  ·
   refine xg (by kernel_rfl) ?_; refine rm rfl ?_; refine rr rfl (rd_bin rfl rfl rfl rfl) ?_; refine rm rfl ?_; refine re_bool (d := 36) rfl (fun h36 => ?_) (fun h36 => ?_)
   ·
    refine re_callL hl rfl rfl rfl rfl rfl rfl rfl (cc_known rfl) ?_; rintro v S1 hk1 rfl hl
    iterate 2 refine rm rfl ?_
    refine re_end rfl ?_
    exact ⟨rfl, bl (by first | (rw [h36]; done) | (rw [h36]; rfl) | (simp [h36]; done)), by repeat (first | exact subL_refl _ | refine subL_skip rfl ?_), hl⟩
   ·
    refine rz rfl ?_; iterate 2 refine rm rfl ?_
    refine re_end rfl ?_
    exact ⟨rfl, bl (by first | (rw [h36]; done) | (rw [h36]; rfl) | (simp [h36]; done)), by repeat (first | exact subL_refl _ | refine subL_skip rfl ?_), hl⟩
  intro S1 hl
  refine xp_ret rfl ?_
  refine thn_ret (done_ret (ress_tmp rfl rfl) ⟨hl.keep, by rw [ws_1 hQ1 h33] <;> rfl⟩)
 ·
  refine xp_skip rfl ?_; refine xs (by kernel_rfl) ?_; refine rm rfl ?_; refine rr rfl (rd_indexAddr rfl rfl rfl (indexAddr_slice (z := 1) Tryd.underlying25 (by kernel_rfl) ⟨by omega, by omega⟩)) ?_; refine rr rfl (rd_load rfl rfl (load1_row (v := .slice a1 V1.length V1.length) (by kernel_rfl) (hr26 hl (fun p hp => List.mem_cons_of_mem _ (hp))) rfl)) ?_
  refine re_callL hl rfl rfl rfl rfl rfl rfl rfl (spec7 a1 V1.length V1 (hl.keep.3 hF) (by omega) hk1 (he1 hl (fun p hp => List.mem_cons_of_mem _ (hp)))) ?_; rintro v S1 hk1 rfl hl
  refine re_allocL hl rfl rfl rfl rfl rfl (z := [.int .i64 0, .int .i64 0]) (by kernel_rfl) ?_; intro B10 S10 hl; refine re_storeL hl 0 rfl rfl rfl rfl rfl rfl rfl (by kernel_rfl) rfl ?_; intro S1 hl; refine re_end rfl ?_; refine xp_seq rfl (xe_cut (fun Le S' => SubE [(7, .slice (some ⟨B26, 0, none⟩) 2 2), (8, ptrTo B8 0), (10, ptrTo B10 0), (2, .int .i64 n), (6, .bool false)] Le ∧ HoldG S [S] S' ((B10, Blk.cells (Ti.cells (eM (eoT V1) (eoT V2))) 33 false true []) :: (B8, Blk.cells [.int .i64 Q1.1.1, .int .i64 Q1.1.2.1, .int .i64 Q1.1.2.2] 27 false true []) :: FR) []) ?_ ?_)
  ·
   refine xs (by kernel_rfl) ?_; refine rm rfl ?_; refine rr rfl (rd_indexAddr rfl rfl rfl (indexAddr_slice (z := 1) Tryd.underlying25 (by kernel_rfl) ⟨by omega, by omega⟩)) ?_; refine rr rfl (rd_load rfl rfl (load1_row (v := .slice a2 V2.length V2.length) (by kernel_rfl) (hr26 hl (fun p hp => List.mem_cons_of_mem _ (List.mem_cons_of_mem _ (hp)))) rfl)) ?_
   refine re_callL hl rfl rfl rfl rfl rfl rfl rfl (spec7 a2 V2.length V2 (hl.keep.3 hF) (by omega) hk2 (he2 hl (fun p hp => List.mem_cons_of_mem _ (List.mem_cons_of_mem _ (hp))))) ?_; rintro v S1 hk1 rfl hl
   refine re_allocL hl rfl rfl rfl rfl rfl (z := [.int .i64 0, .int .i64 0]) (by kernel_rfl) ?_; intro B11 S11 hl; refine re_storeL hl 0 rfl rfl rfl rfl rfl rfl rfl (by kernel_rfl) rfl ?_; intro S1 hl; refine re_end rfl ?_; refine xs (by kernel_rfl) ?_
   have hm1 := mul_bd2 hb2.1 hb1.2
   have hm2 := mul_bd2 hb1.1 hb2.2
   refine rr rfl (rd_fieldAddr rfl rfl (fa Tryd.underlying33 az33 rfl)) ?_; refine rr rfl (rl hl 0 rfl rfl (by kernel_rfl) rfl rfl) ?_; refine rr rfl (rd_fieldAddr rfl rfl (fa Tryd.underlying33 az33 rfl)) ?_; refine rr rfl (rl hl 1 rfl rfl (by kernel_rfl) rfl rfl) ?_; refine rr rfl (rd_bin rfl rfl rfl (i6 (by omega))) ?_; refine rr rfl (rd_fieldAddr rfl rfl (fa Tryd.underlying33 az33 rfl)) ?_; refine rr rfl (rl hl 1 rfl rfl (by kernel_rfl) rfl rfl) ?_; refine rr rfl (rd_fieldAddr rfl rfl (fa Tryd.underlying33 az33 rfl)) ?_; refine rr rfl (rl hl 0 rfl rfl (by kernel_rfl) rfl rfl) ?_
   refine rr rfl (rd_bin rfl rfl rfl (i6 (by omega))) ?_; refine rr rfl (rd_bin rfl rfl rfl rfl) ?_; refine re_end rfl ?_; refine xp_cond rfl rfl (fun h57 => ?_) (fun h57 => ?_)
   ·
    refine xg (by kernel_rfl) ?_; refine rr rfl (rd_load rfl rfl (loadN_of (z := 2) (by kernel_rfl) (by kernel_rfl) (hl.get 0 rfl) rfl)) ?_; refine re_storeL hl 1 rfl rfl rfl rfl rfl rfl rfl (by kernel_rfl) rfl ?_; intro S1 hl; refine re_end rfl ?_
    exact ⟨rfl, ⟨rfl, rfl, rfl, rfl, rfl, trivial⟩, by rw [eM_1 h57]; exact hl.tail⟩
   ·
    refine xp_skip rfl ?_
    exact ⟨rfl, ⟨rfl, rfl, rfl, rfl, rfl, trivial⟩, by rw [eM_2 h57]; exact hl.tail⟩
  clear hl; rintro Le3 S1 ⟨hsub3, hl⟩; refine xe_sub hsub3 ?_
  obtain ⟨E, hE⟩ : ∃ E, E = eM (eoT V1) (eoT V2) := ⟨_, rfl⟩
  rw [← hE] at hl
  refine xp_seq rfl ?_; refine xp_draw (idx := [0, 1, 2, 3, 4, 5, 6, 7]) rfl (by kernel_rfl) (by kernel_rfl) ?_; refine pm rfl ?_; refine pr rfl (rd_indexAddr rfl rfl rfl (indexAddr_slice (z := 1) Tryd.underlying25 (by kernel_rfl) ⟨by omega, by omega⟩)) ?_; refine pk rfl (rd_load rfl rfl (load1_row (v := .slice a1 V1.length V1.length) (by kernel_rfl) (hr26 hl (fun p hp => List.mem_cons_of_mem _ (List.mem_cons_of_mem _ (hp)))) rfl)) ?_; refine pm rfl ?_; refine pr rfl (rd_indexAddr rfl rfl rfl (indexAddr_slice (z := 1) Tryd.underlying25 (by kernel_rfl) ⟨by omega, by omega⟩)) ?_
  refine pk rfl (rd_load rfl rfl (load1_row (v := .slice a2 V2.length V2.length) (by kernel_rfl) (hr26 hl (fun p hp => List.mem_cons_of_mem _ (List.mem_cons_of_mem _ (hp)))) rfl)) ?_; refine rp_buildSliceB hF hl rfl rfl rfl rfl rfl Tryd.underlying25 rfl (c := [.slice a1 V1.length V1.length, .slice a2 V2.length V2.length, .slice none 0 0]) (by kernel_rfl) ?_; intro B65 S1 hl; refine pm rfl ?_; refine rp_end rfl ?_
  refine xp_seq rfl (xe_cut (fun Le S' => ∃ w3 : Value, SubE [(12, .slice (some ⟨B65, 0, none⟩) 3 3), (7, .slice (some ⟨B26, 0, none⟩) 2 2), (8, ptrTo B8 0), (10, ptrTo B10 0), (2, .int .i64 n), (6, .bool false)] Le ∧ Evs S' w3 (reV E) ∧ HoldG S [S] S' ((B65, Blk.cells [.slice a1 V1.length V1.length, .slice a2 V2.length V2.length, w3] 23 true true []) :: (B10, Blk.cells (Ti.cells (E)) 33 false true []) :: (B8, Blk.cells [.int .i64 Q1.1.1, .int .i64 Q1.1.2.1, .int .i64 Q1.1.2.2] 27 false true []) :: FR) []) ?_ ?_)
  ·
   refine xs (by kernel_rfl) ?_; refine rr rfl (rd_fieldAddr rfl rfl (fa Tryd.underlying33 az33 rfl)) ?_; refine rr rfl (rl hl 1 rfl rfl (by kernel_rfl) rfl rfl) ?_; refine rr rfl (rd_bin rfl rfl rfl rfl) ?_; refine re_end rfl ?_; refine xp_cond rfl rfl (fun h68 => ?_) (fun h68 => ?_)
   ·
    refine xp_draw (idx := [0, 2, 1, 3, 4, 5, 6]) rfl (by kernel_rfl) (by kernel_rfl) ?_; refine pm rfl ?_; refine pk rfl (rd_load rfl rfl (loadN_of (z := 2) (by kernel_rfl) (by kernel_rfl) (hl.get 1 rfl) rfl)) ?_
    refine rp_callL hl rfl rfl rfl rfl rfl rfl rfl spec8 ?_; rintro v S1 hk1 rfl hl; refine ⟨by repeat (first | exact trivial | refine stays_left ?_ | (refine ⟨by first | exact stays_new rfl (hl.get 0 rfl) (sameL_atoms _ _ (by simp) (by repeat (first | exact atoms_nil | refine atoms_cons (atom_int _ _) ?_ | refine atoms_cons (atom_bool _) ?_ | refine atoms_cons (atom_slice _ _ _) ?_ | refine atoms_cons (atom_string _) ?_))) | exact stays_new rfl (hl.get 1 rfl) (sameL_atoms _ _ (by simp) (by repeat (first | exact atoms_nil | refine atoms_cons (atom_int _ _) ?_ | refine atoms_cons (atom_bool _) ?_ | refine atoms_cons (atom_slice _ _ _) ?_ | refine atoms_cons (atom_string _) ?_))) | exact stays_load rfl rfl (loadN_of (z := 2) (by kernel_rfl) (by kernel_rfl) (hl.get 0 rfl) rfl) (same_agg rfl (by repeat (first | exact atoms_nil | refine atoms_cons (atom_int _ _) ?_ | refine atoms_cons (atom_bool _) ?_ | refine atoms_cons (atom_slice _ _ _) ?_ | refine atoms_cons (atom_string _) ?_))) rfl | exact stays_load rfl rfl (loadN_of (z := 2) (by kernel_rfl) (by kernel_rfl) (hl.get 1 rfl) rfl) (same_agg rfl (by repeat (first | exact atoms_nil | refine atoms_cons (atom_int _ _) ?_ | refine atoms_cons (atom_bool _) ?_ | refine atoms_cons (atom_slice _ _ _) ?_ | refine atoms_cons (atom_string _) ?_))) rfl | exact stays_load rfl rfl (load1_of (by kernel_rfl) (hl.get 0 rfl) rfl) (same_atom (by first | exact atom_int _ _ | exact atom_bool _ | exact atom_slice _ _ _)) rfl | exact stays_load rfl rfl (load1_of (by kernel_rfl) (hl.get 1 rfl) rfl) (same_atom (by first | exact atom_int _ _ | exact atom_bool _ | exact atom_slice _ _ _)) rfl | exact stays_no (by dsimp only; decide +kernel), ?_⟩)), ?_⟩
    refine pr rfl (rd_build rfl rfl (v := aggL [.int .i64 0, .int .i64 1, .int .i64 E.n, .int .i64 E.d, .int .i64 0, .int .i64 0, .int .i64 0, .bool true, .int .i64 0, .int .i64 0]) (by rfl)) ?_; refine rp_buildSliceB hF hl rfl rfl rfl rfl rfl Tryd.underlying23 rfl (c := (reE E).cells) (by kernel_rfl) ?_; intro B73 S1 hl; refine pr rfl (rd_indexAddr rfl rfl rfl (indexAddr_slice (z := 1) Tryd.underlying25 (by kernel_rfl) ⟨by omega, by omega⟩)) ?_
    refine rp_storeR hl 1 rfl rfl rfl rfl rfl rfl rfl (by kernel_rfl) rfl ?_; intro S1 hl; refine ⟨stays_all (by kernel_rfl), ?_⟩
    refine rp_end rfl ?_
    exact ⟨rfl, _, ⟨rfl, rfl, rfl, rfl, rfl, rfl, trivial⟩, by rw [re_1 h68]; exact LsOf.row (f := Ev.cells) (C := [reE E]) (fun _ => rfl) (own_mem hl (List.mem_cons_self ..)) rfl, hl.tail⟩
   ·
    refine xp_skip rfl ?_
    exact ⟨rfl, _, ⟨rfl, rfl, rfl, rfl, rfl, rfl, trivial⟩, by rw [re_2 h68]; exact LsOf.nil, hl⟩
  clear hl; rintro Le4 Sj ⟨w3, hsub4, he3, hl⟩; refine xe_sub hsub4 ?_
  have hvm := vs_three (own_mem hl (List.mem_cons_self ..)) (he1 hl (fun p hp => List.mem_cons_of_mem _ (List.mem_cons_of_mem _ (List.mem_cons_of_mem _ (hp))))) (he2 hl (fun p hp => List.mem_cons_of_mem _ (List.mem_cons_of_mem _ (List.mem_cons_of_mem _ (hp))))) he3
  have hr26 := hr26 hl (fun p hp => List.mem_cons_of_mem _ (List.mem_cons_of_mem _ (List.mem_cons_of_mem _ (hp))))
  have he1 := he1 hl (fun p hp => List.mem_cons_of_mem _ (List.mem_cons_of_mem _ (List.mem_cons_of_mem _ (hp))))
  have he2 := he2 hl (fun p hp => List.mem_cons_of_mem _ (List.mem_cons_of_mem _ (List.mem_cons_of_mem _ (hp))))
  have hl := hl.mark
  have hl : HoldG S [Sj, S] Sj [(B10, Blk.cells (Ti.cells (E)) 33 false true []), (B8, Blk.cells [.int .i64 Q1.1.1, .int .i64 Q1.1.2.1, .int .i64 Q1.1.2.2] 27 false true [])] [] := hl.sub (List.Sublist.cons _ (List.Sublist.cons_cons _ (List.Sublist.cons_cons _ (List.nil_sublist _))))
  refine xs (by kernel_rfl) ?_; refine rm rfl ?_
  refine re_callL hl rfl rfl rfl rfl rfl rfl rfl (spec5 (some ⟨B65, 0, none⟩) 3 [V1, V2, reV E] (hl.keep.3 hF) (hG.keep hl.keep) (hvm.move (hl.since 0 rfl))) ?_; rintro v S1 hkc rfl hl; obtain ⟨Q2, hQ2⟩ : ∃ Q, Q = ofE [V1, V2, reV E] := ⟨_, rfl⟩; rw [← hQ2]
  iterate 3 refine rm rfl ?_
  refine re_allocL hl rfl rfl rfl rfl rfl (z := [.int .i64 0, .int .i64 0, .int .i64 0]) (by kernel_rfl) ?_; intro B13 S13 hl; refine re_storeL hl 0 rfl rfl rfl rfl rfl rfl rfl (by kernel_rfl) rfl ?_; intro S1 hl; refine rm rfl ?_; refine re_end rfl ?_; refine xp_seq rfl ?_; refine xp_seq rfl (xe_toE hl 86 (.bool ((Q2.2 != 0) || !decide (Q2.1 = Q1.1))) ?_ rfl ?_)
  ·
   refine xg (by kernel_rfl) ?_; refine rm rfl ?_; refine rr rfl (rd_bin rfl rfl rfl rfl) ?_; refine rm rfl ?_; refine re_bool (d := 82) rfl (fun h82 => ?_) (fun h82 => ?_)
   ·
    iterate 3 refine rz rfl ?_
    refine rm rfl ?_; refine re_end rfl ?_
    exact ⟨rfl, bl (by first | (rw [h82]; done) | (rw [h82]; rfl) | (simp [h82]; done)), by repeat (first | exact subL_refl _ | refine subL_skip rfl ?_), hl⟩
   ·
    refine rr rfl (rd_load rfl rfl (loadN_of (z := 3) (by kernel_rfl) (by kernel_rfl) (hl.get 0 rfl) rfl)) ?_; refine rr rfl (rd_load rfl rfl (loadN_of (z := 3) (by kernel_rfl) (by kernel_rfl) (hl.get 2 rfl) rfl)) ?_; refine rr rfl (rd_bin rfl rfl rfl (neWt _ _ Q2.1 Q1.1)) ?_; refine rm rfl ?_; refine re_end rfl ?_
    exact ⟨rfl, bl (by first | (rw [h82]; done) | (rw [h82]; rfl) | (simp [h82]; done)), by repeat (first | exact subL_refl _ | refine subL_skip rfl ?_), hl⟩
  intro S1 hl
  refine xp_cond rfl rfl (fun h86 => ?_) (fun h86 => ?_)
  ·
   refine xs (by kernel_rfl) ?_; refine rm rfl ?_; refine re_end rfl ?_; refine xp_ret rfl ?_
   refine thn_ret (done_ret (ress_tmp rfl rfl) ⟨hl.keep, by rw [ws_2 hQ1 h33 (by rw [hQ2, hE]) h86] <;> rfl⟩)
  ·
   refine xp_skip rfl ?_; refine xs (by kernel_rfl) ?_; refine re_buildSliceR hl rfl rfl rfl rfl rfl Tryd.underlying22 rfl (c := [.int .i64 7, .int .i64 (-7)]) (by kernel_rfl) ?_; intro B87 Sk hr87 hl
   have hl := hl.mark
   have hmn := modE_bd n (n := 2) (by decide)
   refine rm rfl ?_
   refine re_callL hl rfl rfl rfl rfl rfl rfl rfl (spec9 n 2 (by omega) (by omega)) ?_; rintro v S1 hk1 rfl hl
   refine rr rfl (rd_indexAddr rfl rfl rfl (indexAddr_slice (z := 1) Tryd.underlying22 (by kernel_rfl) ⟨by omega, by omega⟩)) ?_; refine rr rfl (rd_load rfl rfl (load1_row (by kernel_rfl) (row_move (hl.since 0 rfl) hr87) (st_at n))) ?_; refine rm rfl ?_; refine re_end rfl ?_; refine xs (by kernel_rfl) ?_; refine rm rfl ?_; refine rr rfl (rd_indexAddr rfl rfl rfl (indexAddr_slice (z := 1) Tryd.underlying25 (by kernel_rfl) ⟨by omega, by omega⟩)) ?_; refine rr rfl (rd_load rfl rfl (load1_row (v := .slice a1 V1.length V1.length) (by kernel_rfl) (row_move (hl.since 1 rfl) hr26) rfl)) ?_
   refine rm rfl ?_
   refine re_callL hl rfl rfl rfl rfl rfl rfl rfl (spec10 (stN n) a1 V1.length V1 (hl.keep.3 hF) (he1.move (hl.since 1 rfl))) ?_; obtain ⟨P1, hP1⟩ : ∃ P, P = mvVE V1 (stN n) := ⟨_, rfl⟩; rw [← hP1]; rintro v Sp hkd ⟨p1, kp1, rfl, hp1⟩ hl; have hl := hl.mark
   iterate 5 refine rm rfl ?_
   refine re_end rfl ?_; refine xs (by kernel_rfl) ?_; refine rm rfl ?_; refine rr rfl (rd_indexAddr rfl rfl rfl (indexAddr_slice (z := 1) Tryd.underlying25 (by kernel_rfl) ⟨by omega, by omega⟩)) ?_; refine rr rfl (rd_load rfl rfl (load1_row (v := .slice a2 V2.length V2.length) (by kernel_rfl) (row_move (hl.since 2 rfl) hr26) rfl)) ?_; refine rm rfl ?_
   refine re_callL hl rfl rfl rfl rfl rfl rfl rfl (spec10 (stN n) a2 V2.length V2 (hl.keep.3 hF) (he2.move (hl.since 2 rfl))) ?_; obtain ⟨P2, hP2⟩ : ∃ P, P = mvVE V2 (stN n) := ⟨_, rfl⟩; rw [← hP2]; rintro v Sq hke ⟨p2, kp2, rfl, hp2⟩ hl; have hl := hl.mark
   iterate 5 refine rm rfl ?_
   refine re_end rfl ?_; refine xp_seq rfl ?_; refine xp_seq rfl (xe_toE hl 113 (.bool ((P1.2 != 0) || (P2.2 != 0))) ?_ rfl ?_)
   ·
    refine xg (by kernel_rfl) ?_; refine rm rfl ?_; refine rr rfl (rd_bin rfl rfl rfl rfl) ?_; refine rm rfl ?_; refine re_bool (d := 110) rfl (fun h110 => ?_) (fun h110 => ?_)
    ·
     iterate 2 refine rz rfl ?_
     refine rm rfl ?_; refine re_end rfl ?_
     exact ⟨rfl, bl (by first | (rw [h110]; done) | (rw [h110]; rfl) | (simp [h110]; done)), by repeat (first | exact subL_refl _ | refine subL_skip rfl ?_), hl⟩
    ·
     refine rm rfl ?_; refine rr rfl (rd_bin rfl rfl rfl rfl) ?_; refine rm rfl ?_; refine re_end rfl ?_
     exact ⟨rfl, bl (by first | (rw [h110]; done) | (rw [h110]; rfl) | (simp [h110]; done)), by repeat (first | exact subL_refl _ | refine subL_skip rfl ?_), hl⟩
   intro S1 hl
   refine xp_cond rfl rfl (fun h113 => ?_) (fun h113 => ?_)
   ·
    refine xs (by kernel_rfl) ?_
    refine re_callL hl rfl rfl rfl rfl rfl rfl rfl (cc_known rfl) ?_; rintro v S1 hk1 rfl hl
    refine rm rfl ?_; refine re_end rfl ?_; refine xp_ret rfl ?_
    refine thn_ret (done_ret (ress_tmp rfl rfl) ⟨hl.keep, by rw [ws_3 hQ1 h33 (by rw [hQ2, hE]) h86 hP1 hP2 h113] <;> rfl⟩)
   ·
    refine xp_skip rfl ?_; refine xs (by kernel_rfl) ?_; iterate 2 refine rm rfl ?_
    refine re_buildSliceR hl rfl rfl rfl rfl rfl Tryd.underlying25 rfl (c := [.slice p1 P1.1.length kp1, .slice p2 P2.1.length kp2]) (by kernel_rfl) ?_; intro B118 S1 hr118 hl
    refine re_callL hl rfl rfl rfl rfl rfl rfl rfl (spec5 (some ⟨B118, 0, none⟩) 2 [P1.1, P2.1] (hl.keep.3 hF) (hG.keep hl.keep) (vs_two hr118 (hp1.move (hl.since 1 rfl)) (hp2.move (hl.since 0 rfl)))) ?_; rintro v S1 hkc rfl hl; obtain ⟨Q3, hQ3⟩ : ∃ Q, Q = ofE [P1.1, P2.1] := ⟨_, rfl⟩; rw [← hQ3]
    iterate 3 refine rm rfl ?_
    refine re_allocL hl rfl rfl rfl rfl rfl (z := [.int .i64 0, .int .i64 0, .int .i64 0]) (by kernel_rfl) ?_; intro B20 S20 hl; refine re_storeL hl 0 rfl rfl rfl rfl rfl rfl rfl (by kernel_rfl) rfl ?_; intro S1 hl; refine rm rfl ?_; refine re_end rfl ?_; refine xe_sub (L' := [(21, .int .i64 Q3.2), (20, ptrTo B20 0), (8, ptrTo B8 0)]) ⟨rfl, rfl, rfl, trivial⟩ ?_; refine xp_seq rfl (xe_toE hl 6 (.bool ((Q3.2 == 0) && decide (Q3.1 = Q1.1))) ?_ rfl ?_)
    ·
     refine xg (by kernel_rfl) ?_; refine rm rfl ?_; refine rr rfl (rd_bin rfl rfl rfl rfl) ?_; refine rm rfl ?_; refine re_bool (d := 124) rfl (fun h124 => ?_) (fun h124 => ?_)
     ·
      refine rr rfl (rd_load rfl rfl (loadN_of (z := 3) (by kernel_rfl) (by kernel_rfl) (hl.get 0 rfl) rfl)) ?_; refine rr rfl (rd_load rfl rfl (loadN_of (z := 3) (by kernel_rfl) (by kernel_rfl) (hl.get 3 rfl) rfl)) ?_; refine rr rfl (rd_bin rfl rfl rfl (isWt _ _ Q3.1 Q1.1)) ?_; iterate 2 refine rm rfl ?_
      refine re_bool (d := 129) rfl (fun h129 => ?_) (fun h129 => ?_)
      ·
       refine re_callL hl rfl rfl rfl rfl rfl rfl rfl (cc_known rfl) ?_; rintro v S1 hk1 rfl hl
       iterate 2 refine rm rfl ?_
       refine re_end rfl ?_
       exact ⟨rfl, bl (by first | (rw [h124, h129]; done) | (rw [h124, h129]; rfl) | (simp [h129, h124]; done)), by repeat (first | exact subL_refl _ | refine subL_skip rfl ?_), hl⟩
      ·
       refine rz rfl ?_; iterate 2 refine rm rfl ?_
       refine re_end rfl ?_
       exact ⟨rfl, bl (by first | (rw [h124, h129]; done) | (rw [h124, h129]; rfl) | (simp [h129, h124]; done)), by repeat (first | exact subL_refl _ | refine subL_skip rfl ?_), hl⟩
     ·
      iterate 3 refine rz rfl ?_
      iterate 2 refine rm rfl ?_
      refine rz rfl ?_; iterate 2 refine rm rfl ?_
      refine re_end rfl ?_
      exact ⟨rfl, bl (by first | (rw [h124]; done) | (rw [h124]; rfl) | (simp [h124]; done)), by repeat (first | exact subL_refl _ | refine subL_skip rfl ?_), hl⟩
    intro S1 hl
    refine xp_ret rfl ?_
    refine done_ret (ress_tmp rfl rfl) ⟨hl.keep, by rw [ws_4 hQ1 h33 (by rw [hQ2, hE]) h86 hP1 hP2 h113 hQ3] <;> rfl⟩
end Go.Proofs.YtlnenodplgpceaaDoor
namespace Go.Proofs.YtlnenodplgpceaaDoor
open Go.Cm Go
set_option maxRecDepth 100000
variable {S : St}
def oc (k : Int) (p : Pt) : Pt := ⟨p.s, p.o + k, p.a⟩
def Pv (k : Int) (p : Pt) : Prop := pB p = false ∧ pB (oc k p) = false
section
variable {k : Int} {p q : Pt}
theorem numI_oc : numI (oc k p) = numI p + 7 * k := by unfold numI oc; show 7 * (p.o + k) + p.s = _; omega
theorem tdiv7 {o s : Int} (ho : 0 ≤ o) (hs : 0 ≤ s) (hs6 : s ≤ 6) : (7 * o + s).tdiv 7 = o ∧ (7 * o + s).tmod 7 = s := by
 rw [Int.tdiv_eq_ediv_of_nonneg (by omega), Int.tmod_eq_emod_of_nonneg (by omega)]
 omega
theorem hgt_at (h : pB p = false) : hgtI (numI p) p.a = 12 * p.o + halfI p.s + p.a := by
 have hb := pB_ok h
 have ht := tdiv7 (o := p.o) (s := p.s) hb.2.2.1 hb.1 hb.2.1
 unfold hgtI numI
 rw [ht.1, ht.2]
theorem hgt_oc (h : Pv k p) : hgtI (numI (oc k p)) (oc k p).a = hgtI (numI p) p.a + 12 * k := by
 rw [hgt_at h.1, hgt_at h.2]
 show 12 * (p.o + k) + halfI p.s + p.a = _
 omega
theorem oc_inj (h : oc k p = oc k q) : p = q := by
 obtain ⟨a, b, c⟩ := p
 obtain ⟨a', b', c'⟩ := q
 unfold oc at h
 simp only [Pt.mk.injEq] at h
 rw [Pt.mk.injEq]
 omega
theorem dec_oc : decide (oc k p = oc k q) = decide (p = q) := by
 by_cases h : p = q
 ·rw [decide_eq_true h, decide_eq_true (by rw [h])]
 ·rw [decide_eq_false h, decide_eq_false fun e => h (oc_inj e)]
theorem lowB_oc (hp : Pv k p) (hq : Pv k q) : lowB (oc k p) (oc k q) = lowB p q := by
 unfold lowB
 rw [numE_ok hp.1, numE_ok hq.1, numE_ok hp.2, numE_ok hq.2, hgtE_ok hp.1, hgtE_ok hq.1, hgtE_ok hp.2, hgtE_ok hq.2, hgt_oc hp, hgt_oc hq, numI_oc, numI_oc]
 show (decide (numI q + 7 * k < numI p + 7 * k) || ((numI q + 7 * k == numI p + 7 * k) && decide (hgtI (numI q) q.a + 12 * k < hgtI (numI p) p.a + 12 * k))) = (decide (numI q < numI p) || ((numI q == numI p) && decide (hgtI (numI q) q.a < hgtI (numI p) p.a)))
 have e1 : decide (numI q + 7 * k < numI p + 7 * k) = decide (numI q < numI p) := decide_eq_decide.2 (by omega)
 have e2 : (numI q + 7 * k == numI p + 7 * k) = (numI q == numI p) := by rw [Bool.eq_iff_iff, beq_iff_eq, beq_iff_eq]; omega
 have e3 : decide (hgtI (numI q) q.a + 12 * k < hgtI (numI p) p.a + 12 * k) = decide (hgtI (numI q) q.a < hgtI (numI p) p.a) := decide_eq_decide.2 (by omega)
 rw [e1, e2, e3]
theorem lowE_oc (hp : Pv k p) (hq : Pv k q) : lowE (oc k p) (oc k q) = (oc k (lowE p q).1, oc k (lowE p q).2) := by
 cases h : lowB p q with
 | true => rw [low_1 h, low_1 (by rw [lowB_oc hp hq]; exact h)]
 | false => rw [low_2 h, low_2 (by rw [lowB_oc hp hq]; exact h)]
theorem ivP_oc (hp : Pv k p) (hq : Pv k q) : ivP (oc k p) (oc k q) = ivP p q := by
 unfold ivP
 rw [numI_oc, numI_oc, ← numI_oc (k := k), ← numI_oc (k := k), hgt_oc hp, hgt_oc hq, numI_oc, numI_oc, Iv.mk.injEq]
 omega
theorem btwE_oc (hp : Pv k p) (hq : Pv k q) : btwE (oc k p) (oc k q) = btwE p q := by
 rw [btw_2 (fstP_ok hp.1 hq.1), btw_2 (fstP_ok hp.2 hq.2), ivP_oc hp hq]
theorem bwE_oc (hp : Pv k p) (hq : Pv k q) : bwE (oc k p) (oc k q) = bwE p q := by
 rw [bw_3 (p := p) (by rw [pE_2 hp.1]; rfl) (by rw [pE_2 hq.1]; rfl), bw_3 (p := oc k p) (by rw [pE_2 hp.2]; rfl) (by rw [pE_2 hq.2]; rfl), lowE_oc hp hq]
 cases h : lowB p q with
 | true => rw [low_1 h]; exact btwE_oc hq hp
 | false => rw [low_2 h]; exact btwE_oc hp hq
theorem spE_oc (hp : Pv k p) (hq : Pv k q) : spE (oc k p) (oc k q) = spE p q := by unfold spE; rw [bwE_oc hp hq]
theorem kdE_oc (hp : Pv k p) (hq : Pv k q) : kdE (oc k p) (oc k q) = kdE p q := by unfold kdE; rw [spE_oc hp hq]
theorem bsB_oc (hp : Pv k p) (hq : Pv k q) : bsB (oc k p) (oc k q) = bsB p q := by
 unfold bsB
 rw [numE_ok hp.1, numE_ok hq.1, numE_ok hp.2, numE_ok hq.2, hgtE_ok hp.1, hgtE_ok hq.1, hgtE_ok hp.2, hgtE_ok hq.2, hgt_oc hp, hgt_oc hq, numI_oc, numI_oc]
 show (decide (hgtI (numI p) p.a + 12 * k < hgtI (numI q) q.a + 12 * k) || ((hgtI (numI p) p.a + 12 * k == hgtI (numI q) q.a + 12 * k) && decide (numI p + 7 * k < numI q + 7 * k))) = (decide (hgtI (numI p) p.a < hgtI (numI q) q.a) || ((hgtI (numI p) p.a == hgtI (numI q) q.a) && decide (numI p < numI q)))
 have e1 : decide (numI p + 7 * k < numI q + 7 * k) = decide (numI p < numI q) := decide_eq_decide.2 (by omega)
 have e2 : (hgtI (numI p) p.a + 12 * k == hgtI (numI q) q.a + 12 * k) = (hgtI (numI p) p.a == hgtI (numI q) q.a) := by rw [Bool.eq_iff_iff, beq_iff_eq, beq_iff_eq]; omega
 have e3 : decide (hgtI (numI p) p.a + 12 * k < hgtI (numI q) q.a + 12 * k) = decide (hgtI (numI p) p.a < hgtI (numI q) q.a) := decide_eq_decide.2 (by omega)
 rw [e1, e2, e3]
end
section
variable {k : Int} {C : List Pt}
def AllV (k : Int) (C : List Pt) : Prop := ∀ p, p ∈ C → Pv k p
theorem fstP_all {k : Int} : ∀ {C : List Pt}, AllV k C → fstP C = 0 ∧ fstP (C.map (oc k)) = 0
 | [], _ => ⟨rfl, rfl⟩
 | p :: r, h => by
  have hp := h p (List.mem_cons_self ..)
  have ih := fstP_all (C := r) fun q hq => h q (List.mem_cons_of_mem _ hq)
  rw [List.map_cons, fstP_go (p := p) (by rw [pE_2 hp.1]; rfl), fstP_go (p := oc k p) (by rw [pE_2 hp.2]; rfl)]
  exact ih
theorem chkE_oc (h : AllV k C) : chkE (C.map (oc k)) = chkE C := by
 unfold chkE
 rw [List.length_map, (fstP_all h).1, (fstP_all h).2]
theorem bsG_oc (h : AllV k C) : ∀ (r : List Pt) (i b : Nat), (∀ p, p ∈ r → Pv k p) → b < C.length → i + r.length ≤ C.length → bsG (C.map (oc k)) (r.map (oc k)) i b = bsG C r i b
 | [], _, _, _, _, _ => rfl
 | x :: r, i, b, hr, hb, hi => by
  have hi : i + (r.length + 1) ≤ C.length := hi
  obtain ⟨y, hy⟩ := nth_some hb
  have hy2 := nth_map (oc k) hy
  show bsG (C.map (oc k)) (r.map (oc k)) (i + 1) (bif bsB (oc k x) ((nth (C.map (oc k)) b).getD p0) then i else b) = bsG C r (i + 1) (bif bsB x ((nth C b).getD p0) then i else b)
  rw [hy, hy2, Option.getD_some, Option.getD_some, bsB_oc (hr x (List.mem_cons_self ..)) (h y (nth_mem hy))]
  refine bsG_oc h r (i + 1) _ (fun p hp => hr p (List.mem_cons_of_mem _ hp)) ?_ (by omega)
  cases bsB x y with
  | true => show i < _; omega
  | false => exact hb
theorem clI_oc {low x : Pt} {a : Nat} (hlow : Pv k low) (hx : Pv k x) : ∀ (r : List Pt) (b : Nat), (∀ p, p ∈ r → Pv k p) → clI (oc k low) (oc k x) a (r.map (oc k)) b = clI low x a r b
 | [], _, _ => rfl
 | y :: r, b, hr => by
  have hy := hr y (List.mem_cons_self ..)
  have ih := clI_oc (a := a) hlow hx r (b + 1) fun p hp => hr p (List.mem_cons_of_mem _ hp)
  have e : clB (oc k low) (oc k x) (oc k y) = clB low x y := by
   unfold clB
   rw [kdE_oc hx hy, lowE_oc hx hy, dec_oc]
  rw [List.map_cons, clI, clI, ih, e, kdE_oc hx hy]
theorem clO_oc {low : Pt} (h : AllV k C) (hlow : Pv k low) : ∀ (r : List Pt) (a : Nat), (∀ p, p ∈ r → Pv k p) → clO (oc k low) (C.map (oc k)) (r.map (oc k)) a = clO low C r a
 | [], _, _ => rfl
 | x :: r, a, hr => by
  rw [List.map_cons, clO_step, clO_step, clI_oc hlow (hr x (List.mem_cons_self ..)) C 0 h, clO_oc h hlow r (a + 1) fun p hp => hr p (List.mem_cons_of_mem _ hp)]
theorem clE_oc (h : AllV k C) : clE (C.map (oc k)) = clE C := by
 cases C with
 | nil => rfl
 | cons x r =>
  have hb : bsE (x :: r) < (x :: r).length := bsE_lt (by simp)
  have eb : bsE ((x :: r).map (oc k)) = bsE (x :: r) := bsG_oc h (x :: r) 0 0 h (by simp) (by simp)
  obtain ⟨low, hl⟩ := nth_some hb
  unfold clE
  rw [eb, nth_map (oc k) hl, hl, Option.getD_some, Option.getD_some]
  exact clO_oc h (h low (nth_mem hl)) (x :: r) 0 h
theorem clsE_oc (h : AllV k C) : clsE (C.map (oc k)) = clsE C := by
 unfold clsE
 rw [chkE_oc h, clE_oc h]
end
end Go.Proofs.YtlnenodplgpceaaDoor
namespace Go.Proofs.YtlnenodplgpceaaDoor
open Go.Cm Go
set_option maxRecDepth 100000
variable {S : St}
def oe (k : Int) (x : Ev) : Ev := bif x.rest then x else ⟨x.at_, x.dur, oc k x.p, false, x.sign, x.pass⟩
section
variable {k : Int} {x : Ev}
theorem oe_1 (h : x.rest = true) : oe k x = x := by unfold oe; rw [h]; rfl
theorem oe_2 (h : x.rest = false) : oe k x = ⟨x.at_, x.dur, oc k x.p, false, x.sign, x.pass⟩ := by unfold oe; rw [h]; rfl
theorem oe_rest : (oe k x).rest = x.rest := by
 cases h : x.rest with
 | true => rw [oe_1 h]; exact h
 | false => rw [oe_2 h]
theorem oe_at : (oe k x).at_ = x.at_ := by
 cases h : x.rest with
 | true => rw [oe_1 h]
 | false => rw [oe_2 h]
theorem oe_dur : (oe k x).dur = x.dur := by
 cases h : x.rest with
 | true => rw [oe_1 h]
 | false => rw [oe_2 h]
theorem oe_p (h : x.rest = false) : (oe k x).p = oc k x.p := by rw [oe_2 h]
end
structure Rel (k : Int) (V V' : List (List Ev)) (L L' : List Sl) : Prop where
 vlen : V.length ≤ V'.length
 hlen : L'.length = L.length
 hat : ∀ n, atL L' n = atL L n
 hev : ∀ n v, v < V.length → evI L' n v = evI L n v
 hln : ∀ v, v < V.length → lenV V' v = lenV V v
 hx : ∀ v i, v < V.length → 0 ≤ i → i < lenV V v → evAt V' v i = oe k (evAt V v i) ∧ ((evAt V v i).rest = false → Pv k (evAt V v i).p)
 wf : ∀ n v, v < V.length → evI L n v < lenV V v
 sil : ∀ n v, V.length ≤ v → v < V'.length → n < L.length → chB V' L' n v = false
section
variable {k : Int} {V V' : List (List Ev)} {L L' : List Sl} {v n a b : Nat}
theorem Rel.sn (R : Rel k V V' L L') (hv : v < V.length) : (snE V' L' v n).2 = (snE V L v n).2 ∧ ((snE V L v n).2 = true → (snE V' L' v n).1 = oe k (snE V L v n).1 ∧ (snE V L v n).1.rest = false ∧ Pv k (snE V L v n).1.p) := by
 have he := R.hev n v hv
 cases hd : decide (evI L n v < 0) with
 | true =>
  have h1 : snB V L v n = true := by unfold snB; rw [hd]; rfl
  have h2 : snB V' L' v n = true := by unfold snB; rw [he, hd]; rfl
  rw [sn_1 h1, sn_1 h2]
  exact ⟨rfl, fun h => by cases h⟩
 | false =>
  have h0 := of_decide_eq_false hd
  obtain ⟨hx, hp⟩ := R.hx v (evI L n v) hv (by omega) (R.wf n v hv)
  cases hr : (evAt V v (evI L n v)).rest with
  | true =>
   have h1 : snB V L v n = true := by unfold snB; rw [hr, Bool.or_true]
   have h2 : snB V' L' v n = true := by unfold snB; rw [he, hx, oe_rest, hr, Bool.or_true]
   rw [sn_1 h1, sn_1 h2]
   exact ⟨rfl, fun h => by cases h⟩
  | false =>
   have h1 : snB V L v n = false := by unfold snB; rw [hd, hr]; rfl
   have h2 : snB V' L' v n = false := by unfold snB; rw [he, hd, hx, oe_rest, hr]; rfl
   rw [sn_2 h1, sn_2 h2, he]
   exact ⟨rfl, fun _ => ⟨hx, hr, hp hr⟩⟩
theorem mvB_f (h : mvB V L v n = false) : (snE V L v (n - 1)).2 = true ∧ (snE V L v n).2 = true ∧ (snE V L v n).1.at_ = atL L n := by
 unfold mvB at h
 cases h1 : (snE V L v (n - 1)).2 <;> cases h2 : (snE V L v n).2 <;> rw [h1, h2] at h <;> simp at h
 exact ⟨rfl, rfl, h⟩
theorem Rel.mvB (R : Rel k V V' L L') (hv : v < V.length) : Go.Proofs.YtlnenodplgpceaaDoor.mvB V' L' v n = Go.Proofs.YtlnenodplgpceaaDoor.mvB V L v n := by
 have s1 := R.sn (n := n - 1) hv
 have s2 := R.sn (n := n) hv
 unfold Go.Proofs.YtlnenodplgpceaaDoor.mvB
 rw [s1.1, s2.1, R.hat]
 cases h2 : (snE V L v n).2 with
 | false => simp
 | true => rw [(s2.2 h2).1, oe_at]
theorem Rel.mvP (R : Rel k V V' L L') (hv : v < V.length) : Go.Proofs.YtlnenodplgpceaaDoor.mvP V' L' v n = Go.Proofs.YtlnenodplgpceaaDoor.mvP V L v n := by
 cases h1 : decide ((n : Int) < 1) with
 | true => rw [mvP_1 h1, mvP_1 h1]
 | false =>
  cases h2 : Go.Proofs.YtlnenodplgpceaaDoor.mvB V L v n with
  | true => rw [mvP_2 h1 h2, mvP_2 h1 (by rw [R.mvB hv]; exact h2)]
  | false =>
   rw [mvP_3 h1 h2, mvP_3 h1 (by rw [R.mvB hv]; exact h2)]
   obtain ⟨f1, f2, _⟩ := mvB_f h2
   obtain ⟨e1, r1, p1⟩ := (R.sn (n := n - 1) hv).2 f1
   obtain ⟨e2, r2, p2⟩ := (R.sn (n := n) hv).2 f2
   rw [e1, e2]
   unfold mvN
   rw [oe_p r1, oe_p r2, numE_ok p1.1, numE_ok p1.2, numE_ok p2.1, numE_ok p2.2, numI_oc, numI_oc]
   show (numI _ + 7 * k - (numI _ + 7 * k), true) = (numI _ - numI _, true)
   rw [show ∀ x y : Int, x + 7 * k - (y + 7 * k) = x - y by intro x y; omega]
theorem mv_snd (h : (Go.Proofs.YtlnenodplgpceaaDoor.mvP V L v n).2 = true) : (snE V L v (n - 1)).2 = true ∧ (snE V L v n).2 = true := by
 cases h1 : decide ((n : Int) < 1) with
 | true => rw [mvP_1 h1] at h; cases h
 | false =>
  cases h2 : Go.Proofs.YtlnenodplgpceaaDoor.mvB V L v n with
  | true => rw [mvP_2 h1 h2] at h; cases h
  | false => exact ⟨(mvB_f h2).1, (mvB_f h2).2.1⟩
theorem Rel.pf (R : Rel k V V' L L') (ha : a < V.length) (hb : b < V.length) (h1 : (snE V L a n).2 = true) (h2 : (snE V L b n).2 = true) : pfE V' L' a b n = pfE V L a b n ∧ ∀ da db, upE V' L' a b n da db = upE V L a b n da db := by
 obtain ⟨e1, r1, p1⟩ := (R.sn (n := n) ha).2 h1
 obtain ⟨e2, r2, p2⟩ := (R.sn (n := n) hb).2 h2
 refine ⟨?_, fun da db => ?_⟩
 ·unfold pfE
  rw [e1, e2, oe_p r1, oe_p r2, spE_oc p1 p2, kdE_oc p1 p2]
 ·unfold upE
  rw [e1, e2, oe_p r1, oe_p r2, numE_ok p1.1, numE_ok p1.2, numE_ok p2.1, numE_ok p2.2, numI_oc, numI_oc]
  have e : decide ((numI (snE V L a n).1.p + 7 * k, (0 : Int)).1 > (numI (snE V L b n).1.p + 7 * k, (0 : Int)).1) = decide ((numI (snE V L a n).1.p, (0 : Int)).1 > (numI (snE V L b n).1.p, (0 : Int)).1) := decide_eq_decide.2 (by show numI _ + 7 * k > numI _ + 7 * k ↔ numI _ > numI _; omega)
  rw [e]
theorem Rel.km (R : Rel k V V' L L') (ha : a < V.length) (hb : b < V.length) : kmE V' L' a b n = kmE V L a b n := by
 have m1 := R.mvP (n := n) ha
 have m2 := R.mvP (n := n) hb
 have eB : kmB V' L' a b n = kmB V L a b n := by unfold kmB; rw [m1, m2]
 cases hB : kmB V L a b n with
 | true => rw [km_1 hB, km_1 (by rw [eB]; exact hB)]
 | false =>
  have f : (Go.Proofs.YtlnenodplgpceaaDoor.mvP V L a n).2 = true ∧ (Go.Proofs.YtlnenodplgpceaaDoor.mvP V L b n).2 = true := by
   unfold kmB at hB
   cases h1 : (Go.Proofs.YtlnenodplgpceaaDoor.mvP V L a n).2 <;> cases h2 : (Go.Proofs.YtlnenodplgpceaaDoor.mvP V L b n).2 <;> rw [h1, h2] at hB <;> simp at hB
   exact ⟨rfl, rfl⟩
  have sa := mv_snd f.1
  have sb := mv_snd f.2
  have p1 := R.pf ha hb sa.2 sb.2
  have p0 := R.pf ha hb sa.1 sb.1
  have eT : tgB V' L' a b n = tgB V L a b n := by unfold tgB; rw [m1, m2]
  have eA : agB V' L' a b n = agB V L a b n := by unfold agB; rw [p0.1, p1.1]
  have eF : faI V' L' a b n = faI V L a b n := by unfold faI; rw [m1, m2, p1.2]
  have eH : hdB V' L' a b n = hdB V L a b n := by unfold hdB; rw [eT, eF]
  unfold kmE
  rw [eB, eT, eA, eH, p1.1]
theorem ch_sn : snB V L v n = !chB V L n v := by
 unfold snB chB
 have e : decide (evI L n v < 0) = !decide (evI L n v ≥ 0) := by
  rw [← decide_not]
  exact decide_eq_decide.2 (by omega)
 rw [e]
 cases decide (evI L n v ≥ 0) <;> cases (evAt V v (evI L n v)).rest <;> rfl
theorem Rel.km0 (R : Rel k V V' L L') (hn : n < L.length) (h : (V.length ≤ a ∧ a < V'.length) ∨ (V.length ≤ b ∧ b < V'.length)) : kmE V' L' a b n = (0, 0) := by
 have key : ∀ v, V.length ≤ v → v < V'.length → (Go.Proofs.YtlnenodplgpceaaDoor.mvP V' L' v n).2 = false := fun v h1 h2 => by
  have hs : snB V' L' v n = true := by rw [ch_sn, R.sil n v h1 h2 hn]; rfl
  cases h1 : decide ((n : Int) < 1) with
  | true => rw [mvP_1 h1]
  | false =>
   rw [mvP_2 h1 (by unfold Go.Proofs.YtlnenodplgpceaaDoor.mvB; rw [sn_1 hs]; simp)]
 refine km_1 ?_
 unfold kmB
 rcases h with h | h
 ·rw [key a h.1 h.2]; rfl
 ·rw [key b h.1 h.2]; simp
theorem prB_add (V : List (List Ev)) (L : List Sl) (n a : Nat) : ∀ f g b, prB V L n a (f + g) b = prB V L n a f b ++ prB V L n a g (b + f)
 | 0, g, b => by rw [Nat.zero_add]; rfl
 | f + 1, g, b => by
  rw [show f + 1 + g = (f + g) + 1 by omega, prB, prB, prB_add V L n a f g (b + 1), List.append_assoc, show b + 1 + f = b + (f + 1) by omega]
theorem prA_add (V : List (List Ev)) (L : List Sl) (n : Nat) : ∀ f g a, prA V L n (f + g) a = prA V L n f a ++ prA V L n g (a + f)
 | 0, g, b => by rw [Nat.zero_add]; rfl
 | f + 1, g, b => by
  rw [show f + 1 + g = (f + g) + 1 by omega, prA, prA, prA_add V L n f g (b + 1), List.append_assoc, show b + 1 + f = b + (f + 1) by omega]
theorem prB_eq {V V' : List (List Ev)} {L L' : List Sl} {n a : Nat} : ∀ f b, (∀ c, b ≤ c → c < b + f → kmE V' L' a c n = kmE V L a c n) → prB V' L' n a f b = prB V L n a f b
 | 0, _, _ => rfl
 | f + 1, b, h => by
  rw [prB, prB, prB_eq f (b + 1) fun c h1 h2 => h c (by omega) (by omega)]
  unfold prI
  rw [h b (Nat.le_refl _) (by omega)]
theorem prB_nil {V : List (List Ev)} {L : List Sl} {n a : Nat} : ∀ f b, (∀ c, b ≤ c → c < b + f → kmE V L a c n = (0, 0)) → prB V L n a f b = []
 | 0, _, _ => rfl
 | f + 1, b, h => by
  rw [prB, prB_nil f (b + 1) fun c h1 h2 => h c (by omega) (by omega)]
  unfold prI
  rw [h b (Nat.le_refl _) (by omega)]
  rfl
theorem Rel.prB (R : Rel k V V' L L') (hn : n < L.length) (ha : a < V.length) : Go.Proofs.YtlnenodplgpceaaDoor.prB V' L' n a (V'.length - (a + 1)) (a + 1) = Go.Proofs.YtlnenodplgpceaaDoor.prB V L n a (V.length - (a + 1)) (a + 1) := by
 have hv := R.vlen
 rw [show V'.length - (a + 1) = (V.length - (a + 1)) + (V'.length - V.length) by omega, prB_add, prB_eq (V.length - (a + 1)) (a + 1) fun c h1 h2 => R.km ha (by omega),
  prB_nil (V'.length - V.length) _ fun c h1 h2 => R.km0 hn (.inr ⟨by omega, by omega⟩), List.append_nil]
theorem prA_eq (R : Rel k V V' L L') (hn : n < L.length) : ∀ f a, a + f ≤ V.length → prA V' L' n f a = prA V L n f a
 | 0, _, _ => rfl
 | f + 1, a, h => by
  rw [prA, prA, prA_eq R hn f (a + 1) (by omega), R.prB hn (by omega)]
theorem prA_nil (R : Rel k V V' L L') (hn : n < L.length) : ∀ f a, V.length ≤ a → a + f ≤ V'.length → prA V' L' n f a = []
 | 0, _, _, _ => rfl
 | f + 1, a, h, h2 => by
  rw [prA, prA_nil R hn f (a + 1) (by omega) (by omega), prB_nil _ _ fun c h3 h4 => R.km0 hn (.inl ⟨h, by omega⟩)]
  rfl
theorem Rel.prA (R : Rel k V V' L L') (hn : n < L.length) : Go.Proofs.YtlnenodplgpceaaDoor.prA V' L' n V'.length 0 = Go.Proofs.YtlnenodplgpceaaDoor.prA V L n V.length 0 := by
 have hv := R.vlen
 rw [show V'.length = V.length + (V'.length - V.length) by omega, prA_add, prA_eq R hn _ _ (by omega), prA_nil R hn _ _ (by omega) (by omega), List.append_nil]
theorem fnG_eq (R : Rel k V V' L L') : ∀ f n, n + f ≤ L.length → fnG V' L' f n = fnG V L f n
 | 0, _, _ => rfl
 | f + 1, n, h => by
  rw [fnG, fnG, fnG_eq R f (n + 1) (by omega), R.prA (by omega)]
theorem chI_add (V : List (List Ev)) (L : List Sl) (n : Nat) : ∀ f g v, chI V L n (f + g) v = chI V L n f v ++ chI V L n g (v + f)
 | 0, g, v => by rw [Nat.zero_add]; rfl
 | f + 1, g, v => by
  rw [show f + 1 + g = (f + g) + 1 by omega, chI, chI, chI_add V L n f g (v + 1), List.append_assoc, show v + 1 + f = v + (f + 1) by omega]
theorem Rel.chB (R : Rel k V V' L L') (hv : v < V.length) : Go.Proofs.YtlnenodplgpceaaDoor.chB V' L' n v = Go.Proofs.YtlnenodplgpceaaDoor.chB V L n v := by
 have h := (R.sn (n := n) hv).1
 have key : ∀ (V : List (List Ev)) (L : List Sl), (snE V L v n).2 = Go.Proofs.YtlnenodplgpceaaDoor.chB V L n v := fun V L => by
  cases hs : snB V L v n with
  | true => rw [sn_1 hs]; rw [ch_sn] at hs; simpa using hs.symm
  | false => rw [sn_2 hs]; rw [ch_sn] at hs; simpa using hs.symm
 rw [key, key] at h
 exact h
theorem chB_t (h : Go.Proofs.YtlnenodplgpceaaDoor.chB V L n v = true) : 0 ≤ evI L n v ∧ (evAt V v (evI L n v)).rest = false := by
 unfold Go.Proofs.YtlnenodplgpceaaDoor.chB at h
 rw [Bool.and_eq_true] at h
 exact ⟨of_decide_eq_true h.1, by simpa using h.2⟩
theorem Rel.chI (R : Rel k V V' L L') : ∀ f v, v + f ≤ V.length → Go.Proofs.YtlnenodplgpceaaDoor.chI V' L' n f v = (Go.Proofs.YtlnenodplgpceaaDoor.chI V L n f v).map (fun q => (q.1, oc k q.2)) ∧ AllV k ((Go.Proofs.YtlnenodplgpceaaDoor.chI V L n f v).map (·.2))
 | 0, _, _ => ⟨rfl, fun p hp => (List.not_mem_nil hp).elim⟩
 | f + 1, v, h => by
  obtain ⟨ih1, ih2⟩ := Rel.chI R f (v + 1) (by omega)
  have hB := R.chB (n := n) (v := v) (by omega)
  cases hc : Go.Proofs.YtlnenodplgpceaaDoor.chB V L n v with
  | false => rw [ch_2 hc, ch_2 (by rw [hB]; exact hc)]; exact ⟨ih1, ih2⟩
  | true =>
   rw [ch_1 hc, ch_1 (by rw [hB]; exact hc), ih1]
   obtain ⟨h0, hr⟩ := chB_t hc
   obtain ⟨hx, hp⟩ := R.hx v (evI L n v) (by omega) h0 (R.wf n v (by omega))
   refine ⟨by rw [List.map_cons, R.hev n v (by omega), hx, oe_p hr], fun p hm => ?_⟩
   rw [List.map_cons] at hm
   rcases List.mem_cons.1 hm with rfl | hm
   ·exact hp hr
   ·exact ih2 p hm
theorem chI_nil {V : List (List Ev)} {L : List Sl} {n : Nat} : ∀ f v, (∀ c, v ≤ c → c < v + f → chB V L n c = false) → chI V L n f v = []
 | 0, _, _ => rfl
 | f + 1, v, h => by rw [ch_2 (h v (Nat.le_refl _) (by omega))]; exact chI_nil f (v + 1) fun c h1 h2 => h c (by omega) (by omega)
theorem Rel.chE (R : Rel k V V' L L') (hn : n < L.length) : Go.Proofs.YtlnenodplgpceaaDoor.chE V' L' n = (Go.Proofs.YtlnenodplgpceaaDoor.chE V L n).map (fun q => (q.1, oc k q.2)) ∧ AllV k ((Go.Proofs.YtlnenodplgpceaaDoor.chE V L n).map (·.2)) := by
 have hv := R.vlen
 unfold Go.Proofs.YtlnenodplgpceaaDoor.chE
 obtain ⟨h1, h2⟩ := R.chI (n := n) V.length 0 (by omega)
 refine ⟨?_, h2⟩
 rw [show V'.length = V.length + (V'.length - V.length) by omega, chI_add, h1, chI_nil (V'.length - V.length) _ fun c h3 h4 => R.sil n c (by omega) (by omega) hn, List.append_nil]
theorem Rel.pd (R : Rel k V V' L L') (hn : n < L.length) : pdE V' L' n = pdE V L n := by
 obtain ⟨h1, h2⟩ := R.chE hn
 unfold pdE
 rw [h1]
 have e1 : ((Go.Proofs.YtlnenodplgpceaaDoor.chE V L n).map (fun q => (q.1, oc k q.2))).map (·.1) = (Go.Proofs.YtlnenodplgpceaaDoor.chE V L n).map (·.1) := by rw [List.map_map]; rfl
 have e2 : ((Go.Proofs.YtlnenodplgpceaaDoor.chE V L n).map (fun q => (q.1, oc k q.2))).map (·.2) = ((Go.Proofs.YtlnenodplgpceaaDoor.chE V L n).map (·.2)).map (oc k) := by rw [List.map_map, List.map_map]; rfl
 rw [e1, e2, clsE_oc h2]
theorem Rel.ks (R : Rel k V V' L L') : ksE V' L' = ksE V L := by
 unfold ksE
 rw [R.hlen]
 refine List.map_congr_left fun n hn => R.pd (List.mem_range.1 hn)
end
end Go.Proofs.YtlnenodplgpceaaDoor
namespace Go.Proofs.YtlnenodplgpceaaDoor
open Go.Cm Go
set_option maxRecDepth 100000
variable {S : St}
section
variable {k : Int} {V V' : List (List Ev)} {L L' : List Sl} {M : List PD} {v n a b mv hh : Nat} {i : Int}
theorem Rel.stp (R : Rel k V V' L L') (hv : v < V.length) : stpE V' v i = stpE V v i := by
 have hl := R.hln v hv
 cases hd : (decide (i < 0) || decide (i + 1 ≥ lenV V v)) with
 | true =>
  have h1 : spB V v i = true := by unfold spB; rw [hd]; rfl
  have h2 : spB V' v i = true := by unfold spB; rw [hl, hd]; rfl
  rw [stp_1 h1, stp_1 h2]
 | false =>
  have hb : 0 ≤ i ∧ i + 1 < lenV V v := by
   rw [Bool.or_eq_false_iff] at hd
   have h1 := of_decide_eq_false hd.1
   have h2 := of_decide_eq_false hd.2
   omega
  obtain ⟨x1, p1⟩ := R.hx v i hv hb.1 (by omega)
  obtain ⟨x2, p2⟩ := R.hx v (i + 1) hv (by omega) hb.2
  have eB : spB V' v i = spB V v i := by unfold spB; rw [hl, x1, x2, oe_rest, oe_rest]
  cases hs : spB V v i with
  | true => rw [stp_1 hs, stp_1 (by rw [eB]; exact hs)]
  | false =>
   have hr : (evAt V v i).rest = false ∧ (evAt V v (i + 1)).rest = false := by
    unfold spB at hs
    rw [hd] at hs
    simpa using hs
   have eS : btS V' v i = btS V v i := by
    unfold btS
    rw [x1, x2, oe_p hr.1, oe_p hr.2, btwE_oc (p1 hr.1) (p2 hr.2)]
   have eT : spT V' v i = spT V v i := by unfold spT; rw [eS]
   unfold stpE
   rw [eB, eT, eS]
theorem stp_in (hs : (stpE V v i != 0) = true) : 0 ≤ i ∧ i + 1 < lenV V v ∧ (evAt V v i).rest = false ∧ (evAt V v (i + 1)).rest = false := by
 cases h : spB V v i with
 | true => rw [stp_1 h] at hs; cases hs
 | false =>
  unfold spB at h
  simp only [Bool.or_eq_false_iff, decide_eq_false_iff_not] at h
  exact ⟨by omega, by omega, h.1.2, h.2⟩
theorem Rel.st (R : Rel k V V' L L') (hv : v < V.length) : stB V' L' n v = stB V L n v := by
 unfold stB
 rw [R.hev n v hv, R.hat]
 cases hd : decide (evI L n v ≥ 0) with
 | false => rfl
 | true => rw [(R.hx v (evI L n v) hv (of_decide_eq_true hd) (R.wf n v hv)).1, oe_at]
theorem Rel.pa (R : Rel k V V' L L') (hv : v < V.length) (h0 : 0 ≤ i) (h1 : i < lenV V v) : paB V' v i = paB V v i := by
 unfold paB shB
 rw [R.stp hv, R.stp hv, (R.hx v i hv h0 h1).1, oe_dur]
theorem Rel.tu (R : Rel k V V' L L') (hv : v < V.length) (h0 : 0 ≤ i) (h1 : i < lenV V v) : tuB V' v i = tuB V v i := by
 unfold tuB shB
 rw [R.stp hv, R.hln v hv, (R.hx v i hv h0 h1).1, oe_dur]
 cases hs : (stpE V v (i - 1) != 0) with
 | false => simp
 | true =>
  obtain ⟨g0, g1, g2, _⟩ := stp_in hs
  cases hd : decide (i + 1 < lenV V v) with
  | false => simp
  | true =>
   have hd' := of_decide_eq_true hd
   obtain ⟨x1, p1⟩ := R.hx v (i + 1) hv (by omega) hd'
   obtain ⟨x0, p0⟩ := R.hx v (i - 1) hv g0 (by omega)
   rw [x1, x0, oe_rest]
   cases hr : (evAt V v (i + 1)).rest with
   | true => simp
   | false => rw [oe_p hr, oe_p g2, dec_oc]
theorem Rel.suG (R : Rel k V V' L L') (hm : mv < V.length) (hh2 : hh < V.length) {j : Int} : ∀ f n, Go.Proofs.YtlnenodplgpceaaDoor.suG L' M mv hh i j f n = Go.Proofs.YtlnenodplgpceaaDoor.suG L M mv hh i j f n
 | 0, _ => rfl
 | f + 1, n => by
  rw [Go.Proofs.YtlnenodplgpceaaDoor.suG, Go.Proofs.YtlnenodplgpceaaDoor.suG, R.hev n hh hh2, R.hev n mv hm, Rel.suG R hm hh2 f (n + 1)]
theorem Rel.su (R : Rel k V V' L L') (hm : mv < V.length) (hh2 : hh < V.length) {j : Int} : suE V' L' M n mv hh i j = suE V L M n mv hh i j := by
 have e : susB V' L' M n mv hh j = susB V L M n mv hh j := by
  unfold susB
  rw [R.hev _ hh hh2, R.stp hh2]
 unfold suE
 rw [e, R.suG hm hh2, R.hlen]
theorem Rel.trT (R : Rel k V V' L L') (hm : mv < V.length) (hh2 : hh < V.length) (hs : stB V L n mv = true) : Go.Proofs.YtlnenodplgpceaaDoor.trT V' L' M n mv hh = Go.Proofs.YtlnenodplgpceaaDoor.trT V L M n mv hh := by
 have h0 := st_pos hs
 have h1 := R.wf n mv hm
 unfold Go.Proofs.YtlnenodplgpceaaDoor.trT
 rw [R.hev n mv hm, R.hev n hh hh2, R.pa hm h0 h1, R.tu hm h0 h1, R.su hm hh2]
theorem Rel.tr (R : Rel k V V' L L') (ha : a < V.length) (hb : b < V.length) : trE V' L' M n a b = trE V L M n a b := by
 have s1 := R.st (n := n) ha
 have s2 := R.st (n := n) hb
 cases h1 : stB V L n a == stB V L n b with
 | true => rw [tr_1 h1, tr_1 (by rw [s1, s2]; exact h1)]
 | false =>
  cases h2 : stB V L n b with
  | true => rw [tr_2 h1 h2, tr_2 (by rw [s1, s2]; exact h1) (by rw [s2]; exact h2), R.trT hb ha h2]
  | false => rw [tr_3 h1 h2, tr_3 (by rw [s1, s2]; exact h1) (by rw [s2]; exact h2), R.trT ha hb (tr_st h1 h2)]
theorem Rel.alS (R : Rel k V V' L L') (ha : a < V.length) (hb : b < V.length) (q : MD × List Ds) : Go.Proofs.YtlnenodplgpceaaDoor.alS V' L' M n a b q = Go.Proofs.YtlnenodplgpceaaDoor.alS V L M n a b q := by
 have ek : keyE L' n a b = keyE L n a b := by unfold keyE; rw [R.hev n a ha, R.hev n b hb]
 have es : skB L' M n a b q.1 = skB L M n a b q.1 := by unfold skB; rw [ek]
 unfold Go.Proofs.YtlnenodplgpceaaDoor.alS
 rw [es, ek, R.tr ha hb]
def MSil (N : Nat) (M : List PD) : Prop := ∀ n a b : Nat, (N ≤ a ∨ N ≤ b) → clK M n a b = 0
theorem alS_sil {N : Nat} (h : MSil N M) (hab : N ≤ a ∨ N ≤ b) (q : MD × List Ds) : alS V L M n a b q = q := by
 obtain ⟨D, O⟩ := q
 exact alS_1 (by unfold skB; rw [h n a b hab]; rfl)
theorem alB_add : ∀ f g b (q : MD × List Ds), alB V L M n a (f + g) b q = alB V L M n a g (b + f) (alB V L M n a f b q)
 | 0, g, b, q => by rw [Nat.zero_add]; rfl
 | f + 1, g, b, q => by rw [show f + 1 + g = (f + g) + 1 by omega, alB, alB, alB_add f g (b + 1), show b + 1 + f = b + (f + 1) by omega]
theorem alB_sil {N : Nat} (h : MSil N M) : ∀ f b (q : MD × List Ds), (N ≤ a ∨ N ≤ b) → alB V L M n a f b q = q
 | 0, _, _, _ => rfl
 | f + 1, b, q, hab => by
  rw [alB, alS_sil h hab]
  exact alB_sil h f (b + 1) q (hab.elim .inl fun hb => .inr (by omega))
theorem Rel.alB (R : Rel k V V' L L') (ha : a < V.length) : ∀ f b (q : MD × List Ds), b + f ≤ V.length → Go.Proofs.YtlnenodplgpceaaDoor.alB V' L' M n a f b q = Go.Proofs.YtlnenodplgpceaaDoor.alB V L M n a f b q
 | 0, _, _, _ => rfl
 | f + 1, b, q, h => by
  rw [Go.Proofs.YtlnenodplgpceaaDoor.alB, Go.Proofs.YtlnenodplgpceaaDoor.alB, R.alS ha (by omega), Rel.alB R ha f (b + 1) _ (by omega)]
theorem Rel.alB2 (R : Rel k V V' L L') (h : MSil V.length M) (ha : a < V.length) (q : MD × List Ds) : Go.Proofs.YtlnenodplgpceaaDoor.alB V' L' M n a (V'.length - (a + 1)) (a + 1) q = Go.Proofs.YtlnenodplgpceaaDoor.alB V L M n a (V.length - (a + 1)) (a + 1) q := by
 have hv := R.vlen
 rw [show V'.length - (a + 1) = (V.length - (a + 1)) + (V'.length - V.length) by omega, alB_add, alB_sil h _ _ _ (.inr (by omega)), R.alB ha _ _ _ (by omega)]
theorem alA_add : ∀ f g a (q : MD × List Ds), alA V L M n (f + g) a q = alA V L M n g (a + f) (alA V L M n f a q)
 | 0, g, b, q => by rw [Nat.zero_add]; rfl
 | f + 1, g, b, q => by rw [show f + 1 + g = (f + g) + 1 by omega, alA, alA, alA_add f g (b + 1), show b + 1 + f = b + (f + 1) by omega]
theorem alA_sil {N : Nat} (h : MSil N M) : ∀ f a (q : MD × List Ds), N ≤ a → alA V L M n f a q = q
 | 0, _, _, _ => rfl
 | f + 1, a, q, ha => by
  rw [alA, alB_sil h _ _ _ (.inl ha)]
  exact alA_sil h f (a + 1) q (by omega)
theorem Rel.alA (R : Rel k V V' L L') (h : MSil V.length M) : ∀ f a (q : MD × List Ds), a + f ≤ V.length → Go.Proofs.YtlnenodplgpceaaDoor.alA V' L' M n f a q = Go.Proofs.YtlnenodplgpceaaDoor.alA V L M n f a q
 | 0, _, _, _ => rfl
 | f + 1, a, q, ha => by
  rw [Go.Proofs.YtlnenodplgpceaaDoor.alA, Go.Proofs.YtlnenodplgpceaaDoor.alA, R.alB2 h (by omega), Rel.alA R h f (a + 1) _ (by omega)]
theorem Rel.alL (R : Rel k V V' L L') (h : MSil V.length M) : ∀ f n (q : MD × List Ds), Go.Proofs.YtlnenodplgpceaaDoor.alL V' L' M f n q = Go.Proofs.YtlnenodplgpceaaDoor.alL V L M f n q
 | 0, _, _ => rfl
 | f + 1, n, q => by
  have hv := R.vlen
  rw [Go.Proofs.YtlnenodplgpceaaDoor.alL, Go.Proofs.YtlnenodplgpceaaDoor.alL, show V'.length = V.length + (V'.length - V.length) by omega, alA_add, alA_sil h _ _ _ (by omega), R.alA h _ _ _ (by omega), Rel.alL R h f (n + 1)]
theorem Rel.ds (R : Rel k V V' L L') (h : MSil V.length M) : dsE V' L' M = dsE V L M := by
 unfold dsE
 rw [R.hlen, R.alL h]
theorem lkI_sil {N : Nat} {W : List Int} (hW : ∀ w, w ∈ W → 0 ≤ w ∧ w < (N : Int)) : ∀ (C : List Cl) (D : PD), (∀ c, c ∈ C → (0 ≤ c.a ∧ c.a < (W.length : Int)) ∧ 0 ≤ c.b ∧ c.b < (W.length : Int)) → ∀ key : Int × Int, ((N : Int) ≤ key.1 ∨ (N : Int) ≤ key.2) → lkI D key = 0 → lkI (pdG W C D) key = 0
 | [], _, _, _, _, h => h
 | c :: r, D, hc, key, hk, h => by
  obtain ⟨⟨a1, a2⟩, b1, b2⟩ := hc c (List.mem_cons_self ..)
  obtain ⟨wa, ha⟩ := nth_some (l := W) (i := c.a.toNat) (by omega)
  obtain ⟨wb, hb⟩ := nth_some (l := W) (i := c.b.toNat) (by omega)
  have h1 := hW wa (nth_mem ha)
  have h2 := hW wb (nth_mem hb)
  rw [pdG, ha, hb]
  refine lkI_sil hW r _ (fun c hc' => hc c (List.mem_cons_of_mem _ hc')) key hk ?_
  rw [lkI_put, if_neg]
  ·exact h
  ·rintro rfl
   show False
   rcases hk with hk | hk
   ·have hk : (N : Int) ≤ wa := hk
    omega
   ·have hk : (N : Int) ≤ wb := hk
    omega
theorem chI_lt : ∀ f v (q : Int × Pt), q ∈ chI V L n f v → 0 ≤ q.1 ∧ q.1 < ((v + f : Nat) : Int)
 | 0, _, _, h => (List.not_mem_nil h).elim
 | f + 1, v, q, h => by
  have hr : q ∈ chI V L n f (v + 1) → 0 ≤ q.1 ∧ q.1 < ((v + (f + 1) : Nat) : Int) := fun h => by
   have := chI_lt f (v + 1) q h
   omega
  cases hc : chB V L n v with
  | false => rw [ch_2 hc] at h; exact hr h
  | true =>
   rw [ch_1 hc] at h
   rcases List.mem_cons.1 h with rfl | h
   ·exact ⟨by show (0 : Int) ≤ (v : Int); omega, by show (v : Int) < ((v + (f + 1) : Nat) : Int); omega⟩
   ·exact hr h
theorem pd_sil {key : Int × Int} (h : (V.length : Int) ≤ key.1 ∨ (V.length : Int) ≤ key.2) : lkI (pdE V L n) key = 0 := by
 unfold pdE
 refine lkI_sil (N := V.length) (fun w hw => ?_) _ _ (fun c hc => ?_) key h rfl
 ·obtain ⟨q, hq, rfl⟩ := List.mem_map.1 hw
  have := chI_lt V.length 0 q hq
  rw [Nat.zero_add] at this
  exact this
 ·have := cls_bd hc
  rw [List.length_map] at this ⊢
  exact this
theorem ks_sil : MSil V.length (ksE V L) := by
 intro n a b hab
 unfold clK
 cases hn : nth (ksE V L) n with
 | none => rfl
 | some D =>
  rw [Option.getD_some, ks_at hn]
  refine pd_sil ?_
  show (V.length : Int) ≤ minI a b ∨ (V.length : Int) ≤ maxI a b
  unfold maxI
  by_cases hba : (b : Int) > a
  ·rw [if_pos hba]; right; rcases hab with h | h <;> omega
  ·rw [if_neg hba]; right; rcases hab with h | h <;> omega
theorem Rel.of (R : Rel k V V' L L') (h : slsE V = (L, 0)) (h' : slsE V' = (L', 0)) : ofE V' = ofE V ∧ (ofE V).2 = 0 := by
 have e1 : ((slsE V).2 != 0) = false := by rw [h]; rfl
 have e1' : ((slsE V').2 != 0) = false := by rw [h']; rfl
 have f : fnE V' = fnE V := by
  rw [fn_2 e1, fn_2 e1', h, h']
  show (fnG V' L' L'.length 0, (0 : Int)) = (fnG V L L.length 0, 0)
  rw [R.hlen, fnG_eq R L.length 0 (by omega)]
 have d : dsA V' = dsA V := by
  rw [dsA_2 e1, dsA_2 e1', h, h']
  show (dsE V' L' (ksE V' L'), (0 : Int)) = (dsE V L (ksE V L), 0)
  rw [R.ks, R.ds ks_sil]
 have c : cnE V' = cnE V := by unfold cnE; rw [d]
 refine ⟨by unfold ofE; rw [f, c], ?_⟩
 have f2 : ((fnE V).2 != 0) = false := by rw [fn_2 e1]; rfl
 have c2 : ((cnE V).2 != 0) = false := by
  rw [cn_2 (by rw [dsA_2 e1]; rfl)]; rfl
 unfold ofE
 rw [f2, c2]
 rfl
end
end Go.Proofs.YtlnenodplgpceaaDoor
namespace Go.Proofs.YtlnenodplgpceaaDoor
open Go.Cm Go
set_option maxRecDepth 100000
variable {S : St}
theorem sx_zero : sx 0 = zT := by decide
def sxC : Bool := (List.range 289).all fun s => decide ((sx s).n * 6 = (s : Int) * (sx s).d)
theorem sxC_ok : sxC = true := by decide +kernel
theorem sx_eq {s : Nat} (hs : s ≤ 288) : (sx s).n * 6 = (s : Int) * (sx s).d := by
 have h := sxC_ok
 unfold sxC at h
 rw [List.all_eq_true] at h
 exact of_decide_eq_true (h s (List.mem_range.2 (by omega)))
section
variable {a b : Nat}
theorem sx_lt (ha : a ≤ 288) (hb : b ≤ 288) (h : a < b) : (sx a).n * (sx b).d < (sx b).n * (sx a).d := by
 have h1 := sx_eq ha
 have h2 := sx_eq hb
 have p1 := (sx_bd (s := a) (by omega)).2.1.1
 have p2 := (sx_bd (s := b) (by omega)).2.1.1
 have hp : 0 < (sx a).d * (sx b).d := Int.mul_pos (by omega) (by omega)
 have e1 : (sx a).n * (sx b).d * 6 = (a : Int) * ((sx a).d * (sx b).d) := by
  rw [Int.mul_right_comm, h1, Int.mul_assoc]
 have e2 : (sx b).n * (sx a).d * 6 = (b : Int) * ((sx a).d * (sx b).d) := by
  rw [Int.mul_right_comm, h2, Int.mul_assoc, Int.mul_comm (sx b).d]
 have h3 : (a : Int) * ((sx a).d * (sx b).d) < (b : Int) * ((sx a).d * (sx b).d) := Int.mul_lt_mul_of_pos_right (by omega) hp
 omega
theorem sx_cross (ha : a ≤ 288) (hb : b ≤ 288) : sgn ((sx a).n * (sx b).d - (sx b).n * (sx a).d) = sgn ((a : Int) - (b : Int)) := by
 rcases Nat.lt_trichotomy a b with h | h | h
 ·have := sx_lt ha hb h
  rw [sgn_1 (decide_eq_true (by omega)), sgn_1 (decide_eq_true (by omega))]
 ·subst h
  rw [show (sx a).n * (sx a).d - (sx a).n * (sx a).d = (a : Int) - (a : Int) by omega]
 ·have := sx_lt hb ha h
  rw [sgn_2 (decide_eq_false (by omega)) (decide_eq_true (by omega)), sgn_2 (decide_eq_false (by omega)) (decide_eq_true (by omega))]
theorem sx_first (ha : a ≤ 288) (hb : b ≤ 288) : firstE [sx a, sx b] = 0 := by
 rw [first_go (by rw [(sx_bd (s := a) (by omega)).2.2]; rfl), first_go (by rw [(sx_bd (s := b) (by omega)).2.2]; rfl)]
 rfl
theorem sx_cmp (ha : a ≤ 288) (hb : b ≤ 288) : cmpE (sx a) (sx b) = (sgn ((a : Int) - (b : Int)), 0) := by
 rw [cmpE_2 (by rw [sx_first ha hb]; rfl), sx_cross ha hb]
theorem sx_inj (ha : a ≤ 288) (hb : b ≤ 288) (h : sx a = sx b) : a = b := by
 rcases Nat.lt_trichotomy a b with k | k | k
 ·have := sx_lt ha hb k; rw [h] at this; omega
 ·exact k
 ·have := sx_lt hb ha k; rw [h] at this; omega
theorem sx_sub (ha : a ≤ 288) (hb : b ≤ 288) (h : a < b) : (subE (sx b) (sx a)).2 = 0 := by
 rw [subE_2 (by rw [sx_first hb ha]; rfl)]
 have hl := sx_lt ha hb h
 have b1 := sx_bd (s := a) (by omega)
 have b2 := sx_bd (s := b) (by omega)
 have m1 := mul_bd2 b2.1 b1.2.1
 have m2 := mul_bd2 b1.1 b2.2.1
 have hp : 0 < (sx b).d * (sx a).d := Int.mul_pos (by omega) (by omega)
 have hd := mul_bd2 (a := (sx b).d) (b := (sx a).d) ⟨by omega, by omega⟩ b1.2.1
 have q1 := quo_bd (a := (sx b).n * (sx a).d - (sx a).n * (sx b).d) (gI_pos (a := (sx b).n * (sx a).d - (sx a).n * (sx b).d) hp) (by omega)
 have q2 := quo_bd (a := (sx b).d * (sx a).d) (gI_pos (a := (sx b).n * (sx a).d - (sx a).n * (sx b).d) hp) (by omega)
 rw [mkE_4 (by rw [decide_eq_false (by omega), decide_eq_false (by omega)]; rfl) (by rw [beq_eq_false_iff_ne]; omega) (by rw [decide_eq_false (by omega), decide_eq_false (by omega)]; rfl)]
end
abbrev Asc (l : List Nat) : Prop := l.Pairwise (· < ·)
theorem asc_ext : ∀ {l m : List Nat}, Asc l → Asc m → (∀ x, x ∈ l ↔ x ∈ m) → l = m
 | [], [], _, _, _ => rfl
 | [], y :: m, _, _, h => absurd ((h y).2 (List.mem_cons_self ..)) List.not_mem_nil
 | x :: l, [], _, _, h => absurd ((h x).1 (List.mem_cons_self ..)) List.not_mem_nil
 | x :: l, y :: m, hl, hm, h => by
  obtain ⟨h1, h2⟩ := List.pairwise_cons.1 hl
  obtain ⟨h3, h4⟩ := List.pairwise_cons.1 hm
  have e : x = y := by
   rcases List.mem_cons.1 ((h x).1 (List.mem_cons_self ..)) with e | hx
   ·exact e
   ·rcases List.mem_cons.1 ((h y).2 (List.mem_cons_self ..)) with e | hy
    ·exact e.symm
    ·have := h1 y hy; have := h3 x hx; omega
  subst e
  rw [asc_ext h2 h4 fun z => ⟨fun hz => by
   rcases List.mem_cons.1 ((h z).1 (List.mem_cons_of_mem _ hz)) with rfl | hz'
   ·have := h1 z hz; omega
   ·exact hz', fun hz => by
   rcases List.mem_cons.1 ((h z).2 (List.mem_cons_of_mem _ hz)) with rfl | hz'
   ·have := h3 z hz; omega
   ·exact hz'⟩]
theorem last_max : ∀ {o : List Nat} {y l : Nat}, Asc o → y ∈ o → nth o (o.length - 1) = some l → y ≤ l
 | [], _, _, _, hy, _ => (List.not_mem_nil hy).elim
 | [x], y, l, _, hy, hl => by
  cases hl
  rw [List.mem_singleton.1 hy]
  exact Nat.le_refl _
 | x :: z :: o, y, l, ho, hy, hl => by
  obtain ⟨h1, h2⟩ := List.pairwise_cons.1 ho
  have hl' : nth (z :: o) ((z :: o).length - 1) = some l := hl
  rcases List.mem_cons.1 hy with rfl | hy
  ·have := h1 l (nth_mem hl'); omega
  ·exact last_max h2 hy hl'
def hdN (a : List Nat) : Nat := (nth a 0).getD 0
def swN (a b : List Nat) : Bool := ((a.length : Int) == 0) || (decide ((b.length : Int) > 0) && decide (hdN b < hdN a))
def spN (a b : List Nat) : List Nat × List Nat := bif swN a b then (b, a) else (a, b)
def pbN (o : List Nat) (x : Nat) : Bool := ((o.length : Int) == 0) || (!decide ((nth o (o.length - 1)).getD 0 = x))
def pN (o : List Nat) (x : Nat) : List Nat := bif pbN o x then o ++ [x] else o
def mgN : Nat → List Nat → List Nat → List Nat → List Nat
 | 0, _, _, o => o
 | n + 1, a, b, o => match (spN a b).1 with
  | [] => o
  | x :: r => mgN n r (spN a b).2 (pN o x)
def Sm (l : List Nat) : Prop := ∀ x, x ∈ l → x ≤ 288
theorem sw_map {a b : List Nat} (ha : Sm a) (hb : Sm b) : swB (a.map sx) (b.map sx) = swN a b := by
 unfold swB swN
 rw [List.length_map, List.length_map]
 cases a with
 | nil => rfl
 | cons x r =>
  cases b with
  | nil => simp
  | cons y q =>
   show (_ || (_ && decide ((cmpE (sx y) (sx x)).1 < 0))) = (_ || (_ && decide (y < x)))
   rw [sx_cmp (hb y (List.mem_cons_self ..)) (ha x (List.mem_cons_self ..))]
   have e : decide ((sgn ((y : Int) - (x : Int)), (0 : Int)).1 < 0) = decide (y < x) := decide_eq_decide.2 (by
    show sgn ((y : Int) - (x : Int)) < 0 ↔ y < x
    rcases Nat.lt_trichotomy y x with h | h | h
    ·rw [sgn_1 (decide_eq_true (by omega))]; omega
    ·rw [sgn_3 (decide_eq_false (by omega)) (decide_eq_false (by omega))]; omega
    ·rw [sgn_2 (decide_eq_false (by omega)) (decide_eq_true (by omega))]; omega)
   rw [e]
theorem sp_map {a b : List Nat} (ha : Sm a) (hb : Sm b) : swp (a.map sx) (b.map sx) = ((spN a b).1.map sx, (spN a b).2.map sx) := by
 unfold swp spN
 rw [sw_map ha hb]
 cases swN a b <;> rfl
theorem p_map {o : List Nat} {x : Nat} (ho : Sm o) (hx : x ≤ 288) : psh (o.map sx) (sx x) = (pN o x).map sx := by
 have e : psB (o.map sx) (sx x) = pbN o x := by
  unfold psB pbN
  rw [List.length_map]
  cases hl : nth o (o.length - 1) with
  | none =>
   have h0 : o.length = 0 := by
    rcases Nat.eq_zero_or_pos o.length with h | h
    ·exact h
    ·obtain ⟨y, hy⟩ := nth_some (l := o) (i := o.length - 1) (by omega)
     rw [hy] at hl; cases hl
   rw [h0]; rfl
  | some l =>
   rw [nth_map sx hl, Option.getD_some, Option.getD_some]
   have : decide (sx l = sx x) = decide (l = x) := decide_eq_decide.2 ⟨fun h => sx_inj (ho l (nth_mem hl)) hx h, fun h => by rw [h]⟩
   rw [this]
 unfold psh pN
 rw [e]
 cases pbN o x with
 | true => show o.map sx ++ [sx x] = (o ++ [x]).map sx; rw [List.map_append]; rfl
 | false => rfl
theorem spN_mem {a b : List Nat} (x : Nat) : (x ∈ (spN a b).1 ∨ x ∈ (spN a b).2) ↔ (x ∈ a ∨ x ∈ b) := by
 unfold spN
 cases swN a b with
 | true => exact or_comm
 | false => exact Iff.rfl
theorem pN_mem {o : List Nat} {x y : Nat} : y ∈ pN o x ↔ y ∈ o ∨ y = x := by
 unfold pN
 cases h : pbN o x with
 | true => show y ∈ o ++ [x] ↔ _; rw [List.mem_append, List.mem_singleton]
 | false =>
  refine ⟨.inl, fun h2 => h2.elim id ?_⟩
  rintro rfl
  unfold pbN at h
  cases hl : nth o (o.length - 1) with
  | none =>
   rw [hl] at h
   have : o.length ≠ 0 := by
    intro h0
    rw [h0] at h; cases h
   obtain ⟨z, hz⟩ := nth_some (l := o) (i := o.length - 1) (by omega)
   rw [hz] at hl; cases hl
  | some l =>
   rw [hl, Bool.or_eq_false_iff] at h
   have : l = y := by simpa using h.2
   rw [← this]
   exact nth_mem hl
theorem mg_map : ∀ (n : Nat) (a b o : List Nat), Sm a → Sm b → Sm o → mgG n (a.map sx) (b.map sx) (o.map sx) = (mgN n a b o).map sx
 | 0, _, _, _, _, _, _ => rfl
 | n + 1, a, b, o, ha, hb, ho => by
  have hs : ∀ x, (x ∈ (spN a b).1 ∨ x ∈ (spN a b).2) → x ≤ 288 := fun x hx => ((spN_mem x).1 hx).elim (ha x) (hb x)
  rw [mgG, mgN, sp_map ha hb]
  cases h1 : (spN a b).1 with
  | nil => rfl
  | cons x r =>
   show mgG n (r.map sx) ((spN a b).2.map sx) (psh (o.map sx) (sx x)) = _
   have hx : x ≤ 288 := hs x (.inl (by rw [h1]; exact List.mem_cons_self ..))
   rw [p_map ho hx]
   exact mg_map n r _ _ (fun y hy => hs y (.inl (by rw [h1]; exact List.mem_cons_of_mem _ hy))) (fun y hy => hs y (.inr hy)) fun y hy => (pN_mem.1 hy).elim (ho y) fun e => by rw [e]; exact hx
theorem pN_asc {o : List Nat} {x : Nat} (ho : Asc o) (h : ∀ y, y ∈ o → y ≤ x) : Asc (pN o x) := by
 unfold pN
 cases hb : pbN o x with
 | false => exact ho
 | true =>
  show Asc (o ++ [x])
  refine List.pairwise_append.2 ⟨ho, List.pairwise_singleton _ _, fun y hy z hz => ?_⟩
  rw [List.mem_singleton.1 hz]
  have h1 := h y hy
  rcases Nat.lt_or_ge y x with h2 | h2
  ·exact h2
  ·have e : y = x := by omega
   subst e
   obtain ⟨l, hl⟩ := nth_some (l := o) (i := o.length - 1) (by cases o with
    | nil => exact (List.not_mem_nil hy).elim
    | cons => simp)
   have := last_max ho hy hl
   have := h l (nth_mem hl)
   have e : l = y := by omega
   unfold pbN at hb
   rw [hl, e] at hb
   have h0 : ¬ (o.length : Int) = 0 := by
    cases o with
    | nil => exact (List.not_mem_nil hy).elim
    | cons => simp; omega
   simp at hb
   subst hb
   exact (List.not_mem_nil hy).elim
theorem mgN_ok : ∀ (n : Nat) (a b o : List Nat), a.length + b.length = n → Asc a → Asc b → Asc o → (∀ x, x ∈ o → ∀ y, y ∈ a ∨ y ∈ b → x ≤ y) → Asc (mgN n a b o) ∧ ∀ x, x ∈ mgN n a b o ↔ x ∈ o ∨ x ∈ a ∨ x ∈ b
 | 0, a, b, o, hn, _, _, ho, _ => by
  obtain rfl : a = [] := List.eq_nil_of_length_eq_zero (by omega)
  obtain rfl : b = [] := List.eq_nil_of_length_eq_zero (by omega)
  exact ⟨ho, fun x => by simp [mgN]⟩
 | n + 1, a, b, o, hn, ha, hb, ho, hle => by
  have hs := spN_mem (a := a) (b := b)
  have hlen : (spN a b).1.length + (spN a b).2.length = n + 1 := by
   unfold spN
   cases swN a b with
   | true => show b.length + a.length = _; omega
   | false => exact hn
  have hA : Asc (spN a b).1 ∧ Asc (spN a b).2 := by
   unfold spN
   cases swN a b with
   | true => exact ⟨hb, ha⟩
   | false => exact ⟨ha, hb⟩
  have hfst : ∀ x r, (spN a b).1 = x :: r → ∀ z, z ∈ (spN a b).2 → x ≤ z := by
   intro x r h1 z hz
   unfold spN at h1 hz
   cases hw : swN a b with
   | true =>
    rw [hw] at h1 hz
    have h1 : b = x :: r := h1
    have hz : z ∈ a := hz
    cases a with
    | nil => exact (List.not_mem_nil hz).elim
    | cons y q =>
     subst h1
     have hxy : x < y := by
      unfold swN at hw
      simp at hw
      rcases hw with hw | hw
      ·omega
      ·exact hw
     rcases List.mem_cons.1 hz with rfl | hz
     ·omega
     ·have := (List.pairwise_cons.1 ha).1 z hz; omega
   | false =>
    rw [hw] at h1 hz
    have h1 : a = x :: r := h1
    have hz : z ∈ b := hz
    cases b with
    | nil => exact (List.not_mem_nil hz).elim
    | cons y q =>
     subst h1
     have hxy : x ≤ y := by
      unfold swN at hw
      rw [Bool.or_eq_false_iff, Bool.and_eq_false_iff] at hw
      rcases hw.2 with h | h
      ·exact absurd (of_decide_eq_false h) (by simp)
      ·have := of_decide_eq_false h
       have : ¬ y < x := this
       omega
     rcases List.mem_cons.1 hz with rfl | hz
     ·exact hxy
     ·have := (List.pairwise_cons.1 hb).1 z hz; omega
  rw [mgN]
  cases h1 : (spN a b).1 with
  | nil =>
   exfalso
   have h2 : (spN a b).2.length = n + 1 := by rw [h1] at hlen; simpa using hlen
   unfold spN at h1 h2
   cases hw : swN a b with
   | true =>
    rw [hw] at h1 h2
    have h1 : b = [] := h1
    have h2 : a.length = n + 1 := h2
    subst h1
    unfold swN at hw
    simp at hw
    subst hw
    simp at h2
   | false =>
    rw [hw] at h1 h2
    have h1 : a = [] := h1
    subst h1
    unfold swN at hw
    simp at hw
  | cons x r =>
   have hxm : x ∈ a ∨ x ∈ b := (hs x).1 (.inl (by rw [h1]; exact List.mem_cons_self ..))
   obtain ⟨hr1, hr2⟩ := List.pairwise_cons.1 (by rw [h1] at hA; exact hA.1 : Asc (x :: r))
   obtain ⟨ih1, ih2⟩ := mgN_ok n r (spN a b).2 (pN o x) (by rw [h1] at hlen; simp at hlen; omega) hr2 hA.2 (pN_asc ho fun y hy => hle y hy x hxm) (fun y hy z hz => by
    rcases pN_mem.1 hy with hy | rfl
    ·exact hle y hy z ((hs z).1 (hz.imp (fun h => by rw [h1]; exact List.mem_cons_of_mem _ h) id))
    ·rcases hz with hz | hz
     ·exact Nat.le_of_lt (hr1 z hz)
     ·exact hfst y r h1 z hz)
   refine ⟨ih1, fun y => (ih2 y).trans ?_⟩
   have hsy := hs y
   rw [h1, List.mem_cons] at hsy
   rw [pN_mem]
   constructor
   ·rintro ((h | h) | h | h)
    ·exact .inl h
    ·exact .inr (hsy.1 (.inl (.inl h)))
    ·exact .inr (hsy.1 (.inl (.inr h)))
    ·exact .inr (hsy.1 (.inr h))
   ·rintro (h | h)
    ·exact .inl (.inl h)
    ·rcases hsy.2 h with (h | h) | h
     ·exact .inl (.inr h)
     ·exact .inr (.inl h)
     ·exact .inr (.inr h)
end Go.Proofs.YtlnenodplgpceaaDoor
namespace Go.Proofs.YtlnenodplgpceaaDoor
open Go.Cm Go
set_option maxRecDepth 100000
variable {S : St}
def dU (x : Ev) : Nat := (x.dur.n * 6 / x.dur.d).toNat
def TV : List Ev → Nat → Prop
 | [], _ => True
 | x :: r, s => (x.at_ = sx s ∧ oneE x = 0 ∧ 0 < dU x ∧ s + dU x ≤ 288 ∧ addE (sx s) x.dur = (sx (s + dU x), 0)) ∧ TV r (s + dU x)
def tvE : List Ev → Nat → Nat
 | [], s => s
 | x :: r, s => tvE r (s + dU x)
def tvO : List Ev → Nat → List Nat
 | [], _ => []
 | x :: r, s => s :: tvO r (s + dU x)
theorem evG_tv : ∀ {C : List Ev} {s i : Nat}, TV C s → evG C (sx s) i = (0, 0)
 | [], _, _, _ => rfl
 | x :: r, s, i, ⟨⟨h1, h2, _, _, h5⟩, hr⟩ => by
  rw [evG_4 (by rw [h2]; rfl) (by rw [decide_eq_true h1]; rfl) (by rw [h1, h5]; rfl), h1, h5]
  exact evG_tv hr
theorem ev_tv {C : List Ev} (h : TV C 0) (hn : C.length ≤ 2000) : evE C = (0, 0) := by
 rw [ev_2 (decide_eq_false (by omega)), ← sx_zero]
 exact evG_tv h
theorem last_tv : ∀ {C : List Ev} {s : Nat}, TV C s → 0 < C.length → ∃ x s2, nth C (C.length - 1) = some x ∧ x.at_ = sx s2 ∧ addE (sx s2) x.dur = (sx (tvE C s), 0)
 | [x], s, ⟨⟨h1, _, _, _, h5⟩, _⟩, _ => ⟨x, s, rfl, h1, h5⟩
 | x :: y :: r, s, ⟨_, hr⟩, _ => by
  obtain ⟨z, s2, h1, h2, h3⟩ := last_tv hr (by simp)
  exact ⟨z, s2, h1, h2, h3⟩
theorem end_tv {C : List Ev} (h : TV C 0) (hn : C.length ≤ 2000) : endE C = (sx (tvE C 0), 0) := by
 have he : ((evE C).1 != 0) = false := by rw [ev_tv h hn]; rfl
 cases C with
 | nil => rw [end_2 he rfl, ← sx_zero]; rfl
 | cons x r =>
  obtain ⟨z, s2, h1, h2, h3⟩ := last_tv h (by simp)
  rw [end_3 he h1, h2, h3]
theorem at_tv : ∀ {C : List Ev} {s : Nat}, TV C s → C.map Ev.at_ = (tvO C s).map sx
 | [], _, _ => rfl
 | x :: r, s, ⟨⟨h1, _⟩, hr⟩ => by rw [List.map_cons, tvO, List.map_cons, h1, at_tv hr]
theorem tvE_le : ∀ {C : List Ev} {s : Nat}, TV C s → s ≤ 288 → s ≤ tvE C s ∧ tvE C s ≤ 288
 | [], s, _, h => ⟨Nat.le_refl _, h⟩
 | x :: r, s, ⟨⟨_, _, _, h4, _⟩, hr⟩, _ => by
  have := tvE_le hr h4
  exact ⟨Nat.le_trans (Nat.le_add_right _ _) this.1, this.2⟩
theorem tvO_in : ∀ {C : List Ev} {s : Nat}, TV C s → s ≤ 288 → ∀ y, y ∈ tvO C s → s ≤ y ∧ y < tvE C s
 | [], _, _, _, y, hy => (List.not_mem_nil hy).elim
 | x :: r, s, ⟨⟨_, _, h3, h4, _⟩, hr⟩, _, y, hy => by
  have hle := tvE_le hr h4
  rcases List.mem_cons.1 hy with rfl | hy
  ·exact ⟨Nat.le_refl _, by show y < tvE r (y + dU x); omega⟩
  ·have := tvO_in hr h4 y hy
   exact ⟨by omega, this.2⟩
theorem tvO_asc : ∀ {C : List Ev} {s : Nat}, TV C s → Asc (tvO C s)
 | [], _, _ => List.Pairwise.nil
 | x :: r, s, ⟨⟨_, _, h3, h4, _⟩, hr⟩ => List.pairwise_cons.2 ⟨fun y hy => by have := (tvO_in hr h4 y hy).1; omega, tvO_asc hr⟩
def moV (C : List Ev) : List Nat := tvO C 0 ++ bif decide ((C.length : Int) > 0) then [tvE C 0] else []
theorem ow_tv {C : List Ev} (h : TV C 0) (hn : C.length ≤ 2000) : owE C = (moV C).map sx := by
 unfold owE moV
 rw [at_tv h, end_tv h hn, List.map_append]
 cases decide ((C.length : Int) > 0) <;> rfl
theorem moV_cons {x : Ev} {r : List Ev} : moV (x :: r) = 0 :: (tvO r (0 + dU x) ++ [tvE r (0 + dU x)]) := by
 unfold moV
 rw [decide_eq_true (show (((x :: r).length : Nat) : Int) > 0 by rw [List.length_cons]; omega)]
 rfl
theorem moV_asc {C : List Ev} (h : TV C 0) : Asc (moV C) := by
 unfold moV
 cases hd : decide ((C.length : Int) > 0) with
 | false => show Asc (tvO C 0 ++ []); rw [List.append_nil]; exact tvO_asc h
 | true => exact List.pairwise_append.2 ⟨tvO_asc h, List.pairwise_singleton _ _, fun y hy z hz => by rw [List.mem_singleton.1 hz]; exact (tvO_in h (by omega) y hy).2⟩
theorem moV_le {C : List Ev} (h : TV C 0) : ∀ y, y ∈ moV C → y ≤ tvE C 0 := by
 intro y hy
 unfold moV at hy
 rcases List.mem_append.1 hy with hy | hy
 ·exact Nat.le_of_lt (tvO_in h (by omega) y hy).2
 ·cases hd : decide ((C.length : Int) > 0) with
  | false => rw [hd] at hy; exact (List.not_mem_nil hy).elim
  | true => rw [hd] at hy; rw [List.mem_singleton.1 hy]; exact Nat.le_refl _
theorem moV_sm {C : List Ev} (h : TV C 0) : Sm (moV C) := fun y hy => Nat.le_trans (moV_le h y hy) (tvE_le h (by omega)).2
theorem moV_ends {C : List Ev} (hn : 0 < C.length) : 0 ∈ moV C ∧ tvE C 0 ∈ moV C := by
 cases C with
 | nil => simp at hn
 | cons x r =>
  rw [moV_cons]
  exact ⟨List.mem_cons_self .., List.mem_cons_of_mem _ (List.mem_append_right _ (List.mem_singleton_self _))⟩
theorem mo_add {a : List Nat} {C : List Ev} (ha : Asc a) (hs : Sm a) (h : TV C 0) (hn : C.length ≤ 2000) : ∃ m, mgE (a.map sx) (owE C) = m.map sx ∧ Asc m ∧ Sm m ∧ ∀ x, x ∈ m ↔ x ∈ a ∨ x ∈ moV C := by
 refine ⟨mgN (a.length + (moV C).length) a (moV C) [], ?_, ?_⟩
 ·unfold mgE
  rw [ow_tv h hn, List.length_map, List.length_map]
  exact mg_map _ a (moV C) [] hs (moV_sm h) fun x hx => (List.not_mem_nil hx).elim
 ·obtain ⟨h1, h2⟩ := mgN_ok _ a (moV C) [] rfl ha (moV_asc h) List.Pairwise.nil fun x hx => (List.not_mem_nil hx).elim
  have h3 : ∀ x, x ∈ mgN (a.length + (moV C).length) a (moV C) [] ↔ x ∈ a ∨ x ∈ moV C := fun x => (h2 x).trans ⟨fun h => h.resolve_left List.not_mem_nil, .inr⟩
  exact ⟨h1, fun x hx => ((h3 x).1 hx).elim (hs x) (moV_sm h x), h3⟩
theorem mo_two {V1 V2 : List Ev} (h1 : TV V1 0) (h2 : TV V2 0) (n1 : V1.length ≤ 2000) (n2 : V2.length ≤ 2000) : ∃ m, moE [V1, V2] = m.map sx ∧ Asc m ∧ Sm m ∧ ∀ x, x ∈ m ↔ x ∈ moV V1 ∨ x ∈ moV V2 := by
 obtain ⟨m1, e1, a1, s1, x1⟩ := mo_add (a := []) List.Pairwise.nil (fun x hx => (List.not_mem_nil hx).elim) h1 n1
 obtain ⟨m2, e2, a2, s2, x2⟩ := mo_add a1 s1 h2 n2
 refine ⟨m2, ?_, a2, s2, fun x => (x2 x).trans ?_⟩
 ·show mgE (mgE [] (owE V1)) (owE V2) = _
  rw [← e2, ← e1]; rfl
 ·rw [x1]
  constructor
  ·rintro ((h | h) | h)
   ·exact (List.not_mem_nil h).elim
   ·exact .inl h
   ·exact .inr h
  ·rintro (h | h)
   ·exact .inl (.inr h)
   ·exact .inr h
theorem mo_three {V1 V2 R : List Ev} {m : List Nat} (hm : moE [V1, V2] = m.map sx) (ha : Asc m) (hs : Sm m) (hr : TV R 0) (nr : R.length ≤ 2000) (hin : ∀ x, x ∈ moV R → x ∈ m) : moE [V1, V2, R] = m.map sx := by
 obtain ⟨m3, e3, a3, s3, x3⟩ := mo_add ha hs hr nr
 have e : m3 = m := asc_ext a3 ha fun x => (x3 x).trans ⟨fun h => h.elim id (hin x), .inl⟩
 show mgE (moE [V1, V2]) (owE R) = _
 rw [hm, e3, e]
theorem slG_no {V : List (List Ev)} : ∀ {m : List Nat} (A : List Nat), Asc m → Sm m → (slG V (m.map sx) A).2 = 0
 | [], _, _, _ => rfl
 | [_], _, _, _ => rfl
 | t :: u :: r, A, ha, hs => by
  obtain ⟨h1, h2⟩ := List.pairwise_cons.1 ha
  have hsub := sx_sub (hs t (List.mem_cons_self ..)) (hs u (List.mem_cons_of_mem _ (List.mem_cons_self ..))) (h1 u (List.mem_cons_self ..))
  rw [List.map_cons, List.map_cons, slG_2 (by rw [hsub]; rfl)]
  exact slG_no (m := u :: r) (upd V (sx t) A) h2 fun x hx => hs x (List.mem_cons_of_mem _ hx)
theorem ac_tv : ∀ {V : List (List Ev)} {i : Nat}, (∀ v, v ∈ V → evE v = (0, 0)) → acG V i = (0, 0)
 | [], _, _ => rfl
 | v :: r, i, h => by
  rw [acG_2 (by rw [h v (List.mem_cons_self ..)]; rfl)]
  exact ac_tv fun w hw => h w (List.mem_cons_of_mem _ hw)
theorem sls_tv {V : List (List Ev)} {m : List Nat} (hn : V.length ≤ 8) (h : ∀ v, v ∈ V → evE v = (0, 0)) (hm : moE V = m.map sx) (ha : Asc m) (hs : Sm m) : slsE V = ((slE V).1, 0) := by
 refine sls_3 ?_ ?_
 ·rw [ac_2 (decide_eq_false (by omega)), ac_tv h]; rfl
 ·unfold slE
  rw [hm]
  exact slG_no _ ha hs
def ad0 (s : Sl) : Sl := ⟨s.at_, s.dur, s.ev ++ [0]⟩
theorem slG_rest {V1 V2 R : List Ev} {e : Nat} (he : e ≤ 288) (hR : R.length = 1) (hE : endE R = (sx e, 0)) : ∀ (m : List Nat) (i j : Nat), Asc m → Sm m → (∀ x, x ∈ m → x ≤ e) → (slG [V1, V2, R] (m.map sx) [i, j, 0]).1 = (slG [V1, V2] (m.map sx) [i, j]).1.map ad0
 | [], _, _, _, _, _ => rfl
 | [_], _, _, _, _, _ => rfl
 | t :: u :: r, i, j, ha, hs, hle => by
  obtain ⟨h1, h2⟩ := List.pairwise_cons.1 ha
  have ht := hs t (List.mem_cons_self ..)
  have hsub := sx_sub ht (hs u (List.mem_cons_of_mem _ (List.mem_cons_self ..))) (h1 u (List.mem_cons_self ..))
  have hte : t < e := Nat.lt_of_lt_of_le (h1 u (List.mem_cons_self ..)) (hle u (List.mem_cons_of_mem _ (List.mem_cons_self ..)))
  have hadv : advE R (sx t) 0 = 0 := advE_stop (by unfold advB; rw [hR]; rfl)
  have hhr : hrE R (sx t) 0 = 0 := by
   unfold hrE
   rw [hE, sx_cmp he ht, sgn_2 (decide_eq_false (by omega)) (decide_eq_true (by omega))]
   rfl
  have e1 : evs [V1, V2, R] (sx t) [i, j, 0] = evs [V1, V2] (sx t) [i, j] ++ [0] := by
   show [hrE V1 (sx t) (advE V1 (sx t) i), hrE V2 (sx t) (advE V2 (sx t) j), hrE R (sx t) (advE R (sx t) 0)] = _
   rw [hadv, hhr]; rfl
  have e2 : upd [V1, V2, R] (sx t) [i, j, 0] = [advE V1 (sx t) i, advE V2 (sx t) j, 0] := by
   show [advE V1 (sx t) i, advE V2 (sx t) j, advE R (sx t) 0] = _
   rw [hadv]
  have ih := slG_rest (V1 := V1) (V2 := V2) he hR hE (u :: r) (advE V1 (sx t) i) (advE V2 (sx t) j) h2 (fun x hx => hs x (List.mem_cons_of_mem _ hx)) fun x hx => hle x (List.mem_cons_of_mem _ hx)
  rw [List.map_cons, List.map_cons, slG_2 (by rw [hsub]; rfl), slG_2 (by rw [hsub]; rfl), List.map_cons, e1, e2]
  rw [List.map_cons] at ih
  rw [ih]
  rfl
theorem nth_app {α : Type} : ∀ {l r : List α} {i : Nat}, i < l.length → nth (l ++ r) i = nth l i
 | [], _, _, h => by simp at h
 | x :: l, r, 0, _ => rfl
 | x :: l, r, i + 1, h => nth_app (l := l) (r := r) (i := i) (by simpa using h)
theorem oc_zero (p : Pt) : oc 0 p = p := by unfold oc; rw [Int.add_zero]
theorem oe_zero (x : Ev) : oe 0 x = x := by
 cases h : x.rest with
 | true => exact oe_1 h
 | false => rw [oe_2 h, oc_zero]; cases x; cases h; rfl
def VP (k : Int) (C : List Ev) : Prop := ∀ x, x ∈ C → x.rest = false → Pv k x.p
theorem evI_wf {V : List (List Ev)} {L : List Sl} (h : WF V L) {n v : Nat} (hv : v < V.length) : evI L n v < lenV V v := by
 obtain ⟨x, hx⟩ := nth_some hv
 rw [lenV_at hx]
 unfold evI
 cases hn : nth L n with
 | none => show (-1 : Int) < _; omega
 | some s =>
  show (nth s.ev v).getD (-1) < _
  cases hi : nth s.ev v with
  | none => show (-1 : Int) < _; omega
  | some i => exact (h n s hn).2 v i x hi hx
theorem ev_in {V : List (List Ev)} {v : Nat} {i : Int} (hv : v < V.length) (h0 : 0 ≤ i) (h1 : i < lenV V v) : ∃ x y, nth V v = some x ∧ nth x i.toNat = some y ∧ evAt V v i = y := by
 obtain ⟨x, hx⟩ := nth_some hv
 rw [lenV_at hx] at h1
 obtain ⟨y, hy⟩ := nth_some (l := x) (i := i.toNat) (by omega)
 exact ⟨x, y, hx, hy, evAt_at hx hy⟩
theorem rel_rest {V1 V2 : List Ev} {r : Ev} {L : List Sl} (hr : r.rest = true) (hL : L = (slsE [V1, V2]).1) (v1 : VP 0 V1) (v2 : VP 0 V2) : Rel 0 [V1, V2] [V1, V2, [r]] L (L.map ad0) := by
 have hwf : WF [V1, V2] L := by rw [hL]; exact sls_wf
 have hn : ∀ n, nth (L.map ad0) n = (nth L n).map ad0 := fun n => by
  cases h : nth L n with
  | some s => rw [nth_map ad0 h]; rfl
  | none =>
   have : L.length ≤ n := by
    rcases Nat.lt_or_ge n L.length with h2 | h2
    ·obtain ⟨s, hs⟩ := nth_some h2; rw [hs] at h; cases h
    ·exact h2
   rw [nth_none (by rw [List.length_map]; exact this)]; rfl
 refine ⟨by show 2 ≤ 3; omega, List.length_map _, fun n => ?_, fun n v hv => ?_, fun v hv => ?_, fun v i hv h0 h1 => ?_, fun n v hv => evI_wf hwf hv, fun n v h1 h2 h3 => ?_⟩
 ·unfold atL
  rw [hn]
  cases nth L n <;> rfl
 ·unfold evI
  rw [hn]
  cases h : nth L n with
  | none => rfl
  | some s =>
   show (nth (s.ev ++ [0]) v).getD (-1) = (nth s.ev v).getD (-1)
   rw [nth_app (by rw [(hwf n s h).1]; exact hv)]
 ·match v, hv with
  | 0, _ => rfl
  | 1, _ => rfl
 ·obtain ⟨x, y, hx, hy, e⟩ := ev_in hv h0 h1
  have e' : evAt [V1, V2, [r]] v i = y := evAt_at (x := x) (by
   match v, hv, hx with
   | 0, _, hx => exact hx
   | 1, _, hx => exact hx) hy
  rw [e, e', oe_zero]
  refine ⟨rfl, fun hr => ?_⟩
  have hm := nth_mem hx
  rcases List.mem_cons.1 hm with rfl | hm
  ·exact v1 y (nth_mem hy) hr
  ·rw [List.mem_singleton.1 hm] at hy
   exact v2 y (nth_mem hy) hr
 ·have h2 : v < 3 := h2
  have h1 : 2 ≤ v := h1
  obtain rfl : v = 2 := by omega
  obtain ⟨s, hs⟩ := nth_some h3
  have he : evI (L.map ad0) n 2 = 0 := by
   unfold evI
   rw [hn, hs]
   show (nth (s.ev ++ [0]) 2).getD (-1) = 0
   have hl : s.ev.length = 2 := (hwf n s hs).1
   match s.ev, hl with
   | [a, b], _ => rfl
  unfold chB
  rw [he]
  show (_ && !r.rest) = false
  rw [hr]; simp
theorem slG_congr {V V' : List (List Ev)} (hu : ∀ t A, upd V' t A = upd V t A) (he : ∀ t A, evs V' t A = evs V t A) : ∀ (l : List Ti) (A : List Nat), slG V' l A = slG V l A
 | [], _ => rfl
 | [_], _ => rfl
 | t :: u :: r, A => by
  rw [slG, slG, hu, he, slG_congr hu he (u :: r)]
theorem dU_oe {k : Int} {x : Ev} : dU (oe k x) = dU x := by unfold dU; rw [oe_dur]
theorem mid_oe {k : Int} {x : Ev} (h : oneE x = 0) (hp : x.rest = false → Pv k x.p) : oneE (oe k x) = 0 := by
 cases hr : x.rest with
 | true => rw [oe_1 hr]; exact h
 | false =>
  have hm : midE (oe k x) = midE x := by
   rw [mid_3 (by rw [oe_rest]; exact hr), mid_3 hr, oe_p hr, pE_2 (hp hr).1, pE_2 (hp hr).2]
  have e : oneE (oe k x) = oneE x := by
   unfold oneE
   rw [oe_at, oe_dur, hm, oe_2 hr]
  rw [e]; exact h
theorem tv_oe {k : Int} : ∀ {C : List Ev} {s : Nat}, TV C s → VP k C → TV (C.map (oe k)) s ∧ tvE (C.map (oe k)) s = tvE C s ∧ tvO (C.map (oe k)) s = tvO C s
 | [], _, _, _ => ⟨trivial, rfl, rfl⟩
 | x :: r, s, ⟨⟨h1, h2, h3, h4, h5⟩, hr⟩, hp => by
  obtain ⟨i1, i2, i3⟩ := tv_oe hr fun y hy => hp y (List.mem_cons_of_mem _ hy)
  have hx := hp x (List.mem_cons_self ..)
  refine ⟨?_, ?_, ?_⟩
  ·show (_ ∧ _ ∧ _ ∧ _ ∧ _) ∧ TV (r.map (oe k)) (s + dU (oe k x))
   rw [dU_oe, oe_at, oe_dur]
   exact ⟨⟨h1, mid_oe h2 hx, h3, h4, h5⟩, i1⟩
  ·show tvE (r.map (oe k)) (s + dU (oe k x)) = _
   rw [dU_oe]; exact i2
  ·show s :: tvO (r.map (oe k)) (s + dU (oe k x)) = _
   rw [dU_oe, i3]; rfl
theorem atT_oe {k : Int} {C : List Ev} : atT (C.map (oe k)) = atT C := by
 funext i
 unfold atT
 cases h : nth C i with
 | some y => rw [nth_map (oe k) h]; show (oe k y).at_ = y.at_; exact oe_at
 | none =>
  have : C.length ≤ i := by
   rcases Nat.lt_or_ge i C.length with h2 | h2
   ·obtain ⟨s, hs⟩ := nth_some h2; rw [hs] at h; cases h
   ·exact h2
  rw [nth_none (by rw [List.length_map]; exact this)]
theorem adv_oe {k : Int} {C : List Ev} {t : Ti} : ∀ f i, adv f (C.map (oe k)) t i = adv f C t i
 | 0, _ => rfl
 | f + 1, i => by
  have e : advB (C.map (oe k)) t i = advB C t i := by unfold advB; rw [atT_oe, List.length_map]
  rw [adv, adv, e, adv_oe f (i + 1)]
theorem advE_oe {k : Int} {C : List Ev} : advE (C.map (oe k)) = advE C := by
 funext t i
 unfold advE
 rw [List.length_map, adv_oe]
section
variable {k : Int} {V1 V2 : List Ev}
theorem hr_oe {C : List Ev} (h : TV C 0) (hn : C.length ≤ 2000) (hp : VP k C) : hrE (C.map (oe k)) = hrE C := by
 funext t i
 unfold hrE
 obtain ⟨h1, h2, _⟩ := tv_oe h hp
 rw [end_tv h1 (by rw [List.length_map]; exact hn), end_tv h hn, h2]
theorem sls_oe (h1 : TV V1 0) (h2 : TV V2 0) (n1 : V1.length ≤ 2000) (n2 : V2.length ≤ 2000) (p1 : VP k V1) (p2 : VP k V2) : slE [V1.map (oe k), V2.map (oe k)] = slE [V1, V2] := by
 have hu : ∀ t A, upd [V1.map (oe k), V2.map (oe k)] t A = upd [V1, V2] t A := fun t A => by
  match A with
  | [] => rfl
  | [i] => show [advE (V1.map (oe k)) t i] = _; rw [advE_oe]; rfl
  | i :: j :: A => show [advE (V1.map (oe k)) t i, advE (V2.map (oe k)) t j] = _; rw [advE_oe, advE_oe]; rfl
 have he : ∀ t A, evs [V1.map (oe k), V2.map (oe k)] t A = evs [V1, V2] t A := fun t A => by
  match A with
  | [] => rfl
  | [i] => show [hrE (V1.map (oe k)) t (advE (V1.map (oe k)) t i)] = _; rw [advE_oe, hr_oe h1 n1 p1]; rfl
  | i :: j :: A => show [hrE (V1.map (oe k)) t (advE (V1.map (oe k)) t i), hrE (V2.map (oe k)) t (advE (V2.map (oe k)) t j)] = _; rw [advE_oe, advE_oe, hr_oe h1 n1 p1, hr_oe h2 n2 p2]; rfl
 have ow : ∀ {C : List Ev}, TV C 0 → C.length ≤ 2000 → VP k C → owE (C.map (oe k)) = owE C := fun {C} h hn hp => by
  obtain ⟨i1, i2, i3⟩ := tv_oe h hp
  rw [ow_tv i1 (by rw [List.length_map]; exact hn), ow_tv h hn]
  unfold moV
  rw [i2, i3, List.length_map]
 unfold slE
 rw [slG_congr hu he]
 have hm : moE [V1.map (oe k), V2.map (oe k)] = moE [V1, V2] := by
  show mgE (mgE [] (owE (V1.map (oe k)))) (owE (V2.map (oe k))) = mgE (mgE [] (owE V1)) (owE V2)
  rw [ow h1 n1 p1, ow h2 n2 p2]
 rw [hm]
 rfl
theorem rel_oct {L : List Sl} (hL : L = (slsE [V1, V2]).1) (p1 : VP k V1) (p2 : VP k V2) : Rel k [V1, V2] [V1.map (oe k), V2.map (oe k)] L L := by
 have hwf : WF [V1, V2] L := by rw [hL]; exact sls_wf
 refine ⟨Nat.le_refl _, rfl, fun _ => rfl, fun _ _ _ => rfl, fun v hv => ?_, fun v i hv h0 h1 => ?_, fun n v hv => evI_wf hwf hv, fun n v h1 h2 _ => absurd h2 (Nat.not_lt.2 h1)⟩
 ·match v, hv with
  | 0, _ => show (((V1.map (oe k)).length : Nat) : Int) = _; rw [List.length_map]; rfl
  | 1, _ => show (((V2.map (oe k)).length : Nat) : Int) = _; rw [List.length_map]; rfl
 ·obtain ⟨x, y, hx, hy, e⟩ := ev_in hv h0 h1
  have hx' : nth [V1.map (oe k), V2.map (oe k)] v = some (x.map (oe k)) := nth_map (List.map (oe k)) hx
  rw [e, evAt_at hx' (nth_map (oe k) hy)]
  refine ⟨rfl, fun hr => ?_⟩
  have hm := nth_mem hx
  rcases List.mem_cons.1 hm with rfl | hm
  ·exact p1 y (nth_mem hy) hr
  ·rw [List.mem_singleton.1 hm] at hy
   exact p2 y (nth_mem hy) hr
end
end Go.Proofs.YtlnenodplgpceaaDoor

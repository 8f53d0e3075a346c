/-
  source.Check.
-/
import Derived.Test.YtgnhcamhcnkbfaaGreatDoorSm4
namespace Go.Proofs.YtgnhcamhcnkbfaaGreatDoor
open Go.Cm Go
set_option maxRecDepth 100000
variable {S : St}
theorem signsE_step {pre r : List Sg} {y : Sg} (h1 : (one y != 0) = false) (h2 : decide (y ∈ pre) = false) : signsE pre (y :: r) = signsE (pre ++ [y]) r := by
  rw [signsE, h1, h2]; rfl
theorem signsE_one {pre r : List Sg} {y : Sg} (h1 : (one y != 0) = true) : signsE pre (y :: r) = one y := by
  rw [signsE, h1]; rfl
theorem signsE_dup {pre r : List Sg} {y : Sg} (h1 : (one y != 0) = false) (h2 : decide (y ∈ pre) = true) : signsE pre (y :: r) = 10 := by
  rw [signsE, h1, h2]; rfl
theorem spotsE_size {x : Spt} {r : List Spt} {i : Nat} (h : szB x = true) : spotsE (x :: r) i = (3, (i : Int)) := by
  rw [spotsE, h]; rfl
theorem spotsE_err {x : Spt} {r : List Spt} {i : Nat} (h : szB x = false) {e : Int} (he : signsE [] x.signs = e) (h0 : (e != 0) = true) : spotsE (x :: r) i = (e, (i : Int)) := by
  rw [spotsE, h, he, h0]; rfl
theorem spotsE_step {x : Spt} {r : List Spt} {i : Nat} (h : szB x = false) (he : signsE [] x.signs = 0) : spotsE (x :: r) i = spotsE r (i + 1) := by
  rw [spotsE, h, he]; rfl
theorem res2 {a b : Int} {p : Int × Int} (h : (a, b) = p) : tupV [.int .i64 a, .int .i64 b] = tupV [.int .i64 p.1, .int .i64 p.2] := by subst h; rfl
noncomputable def c41 : Code := Tryz.f41.body.getD .skip
theorem spec41 (nm : ByteArray) (a : Option Addr) (cap : Nat) (L : List Spt) (hn : L.length ≤ 1000) (hs : ∀ x, x ∈ L → x.signs.length ≤ 1000) (hG : Gl S) (hv : Spots S (.slice a L.length cap) L) : CC Tryz.prog KK 41 [aggL [.string nm, .slice a L.length cap]] S (fun v S' => Keep S S' ∧ v = tupV [.int .i64 (checkF nm.data.toList L).1, .int .i64 (checkF nm.data.toList L).2]) := by
  refine cc_enter (c := c41) (n := 57) Tryz.func41 rfl rfl rfl (by kernel_rfl) rfl rfl ?_
  have hl := Hold.start S
  refine xp_seq rfl ?_; refine xp_region rfl (by kernel_rfl) ?_; refine re_boxL hl rfl rfl rfl rfl rfl rfl ?_; intro B1 S1 hl; iterate 2 refine re_rd rfl rfl rfl rfl (rd_assign rfl rfl) ?_
  refine re_end rfl ?_; iterate 2 refine xp_seq rfl ?_
  refine xp_region rfl (by kernel_rfl) ?_; refine re_rd rfl rfl rfl rfl (rd_fieldAddr rfl rfl (fieldAddr_at Tryz.underlying24 rfl (by kernel_rfl))) ?_; refine re_rd rfl rfl rfl rfl (rd_load rfl rfl (load1_of (by kernel_rfl) (hl.get 0 rfl) rfl)) ?_
  refine re_callL hl rfl rfl rfl rfl rfl rfl rfl (spec48 nm) ?_; rintro v S1 hk1 rfl hl
  refine re_rd rfl rfl rfl rfl (rd_un rfl rfl rfl) ?_; refine re_end rfl ?_; refine xp_cond rfl rfl (fun h12 => ?_) (fun h12 => ?_)
  ·
    refine xp_seq rfl ?_; refine xp_region rfl (by kernel_rfl) ?_; iterate 2 refine re_rd rfl rfl rfl rfl (rd_assign rfl rfl) ?_
    refine re_end rfl ?_; refine xp_ret rfl ?_
    refine thn_ret (done_ret (ress_tmp rfl (ress_tmp rfl rfl)) ⟨hl.keep, res2 (by unfold checkF; rw [h12]; rfl)⟩)
  ·
    refine xp_skip rfl ?_; iterate 2 refine xp_seq rfl ?_
    refine xp_region rfl (by kernel_rfl) ?_; refine re_rd rfl rfl rfl rfl (rd_fieldAddr rfl rfl (fieldAddr_at Tryz.underlying24 rfl (by kernel_rfl))) ?_; refine re_rd rfl rfl rfl rfl (rd_load rfl rfl (load1_of (by kernel_rfl) (hl.get 0 rfl) rfl)) ?_; refine re_rd rfl rfl rfl rfl (rd_len rfl rfl (len_slice Tryz.underlying22)) ?_; refine re_rd rfl rfl rfl rfl (rd_bin rfl rfl rfl rfl) ?_; refine re_end rfl ?_; refine xp_cond rfl rfl (fun h16 => ?_) (fun h16 => ?_)
    ·
      refine xp_seq rfl ?_; refine xp_region rfl (by kernel_rfl) ?_; iterate 2 refine re_rd rfl rfl rfl rfl (rd_assign rfl rfl) ?_
      refine re_end rfl ?_; refine xp_ret rfl ?_
      refine thn_ret (done_ret (ress_tmp rfl (ress_tmp rfl rfl)) ⟨hl.keep, res2 (by unfold checkF; rw [h12, h16]; rfl)⟩)
    ·
      refine xp_skip rfl ?_; iterate 2 refine xp_seq rfl ?_
      refine xp_region rfl (by kernel_rfl) ?_; refine re_rd rfl rfl rfl rfl (rd_fieldAddr rfl rfl (fieldAddr_at Tryz.underlying24 rfl (by kernel_rfl))) ?_; refine re_rd rfl rfl rfl rfl (rd_load rfl rfl (load1_of (by kernel_rfl) (hl.get 0 rfl) rfl)) ?_; refine re_rd rfl rfl rfl rfl (rd_len rfl rfl (len_slice Tryz.underlying22)) ?_; refine re_rd rfl rfl rfl rfl (rd_move rfl rfl) ?_; refine re_end rfl ?_; refine xp_block rfl ?_
      -- LOOP
      have hck : checkF nm.data.toList L = spotsE L 0 := by unfold checkF; rw [h12, h16]; rfl
      refine xe_sub (L' := [(20, .int .i64 0), (19, .int .i64 L.length), (18, .slice a L.length cap), (1, ptrTo B1 0)]) ⟨rfl, rfl, rfl, rfl, trivial⟩ ?_
      refine xp_loop rfl (fun m Le S' => ∃ i : Nat, i ≤ L.length ∧ m = L.length - i ∧ SubE [(20, .int .i64 (i : Int)), (19, .int .i64 L.length), (18, .slice a L.length cap), (1, ptrTo B1 0)] Le ∧ spotsE (L.drop i) i = spotsE L 0 ∧ Hold S [S] S' [(B1, .cells [.string nm, .slice a L.length cap] 24 false true [])]) ?_ (m := L.length) ⟨0, by omega, rfl, ⟨rfl, rfl, rfl, rfl, trivial⟩, rfl, hl⟩
      clear hl; rintro m Le S' ⟨i, hi, rfl, hsub, hpr, hl⟩; refine xe_sub hsub ?_
      refine xp_seq rfl ?_; refine xp_region rfl (by kernel_rfl) ?_; refine re_rd rfl rfl rfl rfl (rd_bin rfl rfl rfl rfl) ?_; refine re_end rfl ?_; refine xp_seq rfl ?_; refine xp_cond rfl rfl (fun h21 => ?_) (fun h21 => ?_)
      ·
        have hlt : i < L.length := by have := of_decide_eq_true h21; omega
        obtain ⟨x, hx⟩ := nth_some hlt
        obtain ⟨b, o, cs, a2, cap2, rfl, hrow, htk, hsg⟩ := hv.elem hx
        have hxs : x.signs.length ≤ 1000 := hs x (nth_mem hx)
        refine xp_skip rfl ?_; refine xp_seq rfl ?_; refine xp_block rfl ?_; refine xp_seq rfl ?_; refine xp_region rfl (by kernel_rfl) ?_; refine re_rd rfl rfl rfl rfl (rd_move rfl rfl) ?_; refine re_rd rfl rfl rfl rfl (rd_indexAddr rfl rfl rfl (indexAddr_slice (z := 2) Tryz.underlying22 (by kernel_rfl) ⟨by omega, by omega⟩)) ?_; refine re_rd rfl rfl rfl rfl (rd_load rfl rfl (loadN_row (z := 2) (by kernel_rfl) (by kernel_rfl) (row_move (hl.since 0 rfl) hrow) htk)) ?_; refine re_allocL hl rfl rfl rfl rfl rfl (z := [.slice none 0 0, .bool false]) (by kernel_rfl) ?_; intro B5 S5 hl
        refine re_rd rfl rfl rfl rfl (rd_assign rfl rfl) ?_; refine re_storeL hl 0 rfl rfl rfl rfl rfl rfl rfl (by kernel_rfl) rfl ?_; intro S1 hl; refine re_end rfl ?_; refine xp_seq rfl ?_; refine xp_seq rfl (xe_toL hl [(32, .bool (szB x)), (5, ptrTo B5 0), (4, .int .i64 (i : Int)), (20, .int .i64 (i : Int)), (19, .int .i64 L.length), (18, .slice (some ⟨b, o, none⟩) L.length cap), (1, ptrTo B1 0)] ?_ ?_)
        ·
          refine xp_region rfl (by kernel_rfl) ?_; refine re_rd rfl rfl rfl rfl (rd_load rfl rfl (loadN_of (z := 2) (by kernel_rfl) (by kernel_rfl) (hl.get 0 rfl) rfl)) ?_
          refine re_callL hl rfl rfl rfl rfl rfl rfl rfl (spec34 a2 x.signs.length cap2 x.blank hxs) ?_; rintro v S1 hk1 rfl hl
          refine re_rd rfl rfl rfl rfl (rd_bin rfl rfl rfl rfl) ?_; refine re_rd rfl rfl rfl rfl (rd_move rfl rfl) ?_; refine re_bool (d := 28) rfl (fun h28 => ?_) (fun h28 => ?_)
          ·
            iterate 3 refine re_pass rfl rfl rfl rfl ?_
            refine re_rd rfl rfl rfl rfl (rd_pick_t rfl rfl rfl) ?_; refine re_end rfl ?_
            exact ⟨rfl, ⟨bl (by unfold szB sizeF; simp only [h28, BLs]), rfl, rfl, rfl, rfl, rfl, rfl, trivial⟩, hl⟩
          ·
            refine re_rd rfl rfl rfl rfl (rd_load rfl rfl (loadN_of (z := 2) (by kernel_rfl) (by kernel_rfl) (hl.get 0 rfl) rfl)) ?_
            refine re_callL hl rfl rfl rfl rfl rfl rfl rfl (spec34 a2 x.signs.length cap2 x.blank hxs) ?_; rintro v S1 hk1 rfl hl
            refine re_rd rfl rfl rfl rfl (rd_bin rfl rfl rfl rfl) ?_; refine re_rd rfl rfl rfl rfl (rd_pick_f rfl rfl rfl) ?_; refine re_end rfl ?_
            exact ⟨rfl, ⟨bl (by unfold szB sizeF; simp only [h28, BLs]), rfl, rfl, rfl, rfl, rfl, rfl, trivial⟩, hl⟩
        intro S1 hl
        refine xp_cond rfl rfl (fun h32 => ?_) (fun h32 => ?_)
        ·
          refine xp_seq rfl ?_; refine xp_region rfl (by kernel_rfl) ?_; refine re_rd rfl rfl rfl rfl (rd_move rfl rfl) ?_; iterate 2 refine re_rd rfl rfl rfl rfl (rd_assign rfl rfl) ?_
          refine re_end rfl ?_; refine xp_ret rfl ?_
          refine thn_ret (blk_ret (thn_ret (round_ret (blk_ret (thn_ret (done_ret (ress_tmp rfl (ress_tmp rfl rfl)) ⟨hl.keep, res2 (by rw [hck, ← hpr, drop_nth' hx, spotsE_size h32])⟩))))))
        ·
          refine xp_skip rfl ?_; refine xp_seq rfl ?_; refine xp_region rfl (by kernel_rfl) ?_; refine re_rd rfl rfl rfl rfl (rd_fieldAddr rfl rfl (fieldAddr_at Tryz.underlying43 rfl (by kernel_rfl))) ?_; refine re_rd rfl rfl rfl rfl (rd_load rfl rfl (load1_of (by kernel_rfl) (hl.get 0 rfl) rfl)) ?_; refine re_rd rfl rfl rfl rfl (rd_len rfl rfl (len_slice Tryz.underlying25)) ?_; refine re_rd rfl rfl rfl rfl (rd_move rfl rfl) ?_; refine re_end rfl ?_; refine xp_block rfl ?_
          -- LOOP
          refine xe_sub (L' := [(37, .int .i64 0), (36, .int .i64 x.signs.length), (35, .slice a2 x.signs.length cap2), (5, ptrTo B5 0), (4, .int .i64 (i : Int)), (20, .int .i64 (i : Int)), (19, .int .i64 L.length), (18, .slice (some ⟨b, o, none⟩) L.length cap), (1, ptrTo B1 0)]) ⟨rfl, rfl, rfl, rfl, rfl, rfl, rfl, rfl, rfl, trivial⟩ ?_
          refine xp_loop rfl (fun m Le S' => ∃ k : Nat, k ≤ x.signs.length ∧ m = x.signs.length - k ∧ SubE [(37, .int .i64 (k : Int)), (36, .int .i64 x.signs.length), (35, .slice a2 x.signs.length cap2), (5, ptrTo B5 0), (4, .int .i64 (i : Int)), (20, .int .i64 (i : Int)), (19, .int .i64 L.length), (18, .slice (some ⟨b, o, none⟩) L.length cap), (1, ptrTo B1 0)] Le ∧ signsE (x.signs.take k) (x.signs.drop k) = signsE [] x.signs ∧ Hold S [S] S' [(B5, .cells [.slice a2 x.signs.length cap2, .bool x.blank] 43 false true []), (B1, .cells [.string nm, .slice (some ⟨b, o, none⟩) L.length cap] 24 false true [])]) ?_ (m := x.signs.length) ⟨0, by omega, rfl, ⟨rfl, rfl, rfl, rfl, rfl, rfl, rfl, rfl, rfl, trivial⟩, rfl, hl⟩
          clear hl; rintro m Le S' ⟨k, hk, rfl, hsub2, hin, hl⟩; refine xe_sub hsub2 ?_
          refine xp_seq rfl ?_; refine xp_region rfl (by kernel_rfl) ?_; refine re_rd rfl rfl rfl rfl (rd_bin rfl rfl rfl rfl) ?_; refine re_end rfl ?_; refine xp_seq rfl ?_; refine xp_cond rfl rfl (fun h38 => ?_) (fun h38 => ?_)
          ·
            have hlt2 : k < x.signs.length := by have := of_decide_eq_true h38; omega
            obtain ⟨y, hy⟩ := nth_some hlt2
            obtain ⟨b2, o2, cs2, rfl, _, hrow2, htk2⟩ := hsg.elem hy
            refine xp_skip rfl ?_; refine xp_seq rfl ?_; refine xp_block rfl ?_; refine xp_seq rfl ?_; refine xp_region rfl (by kernel_rfl) ?_; refine re_rd rfl rfl rfl rfl (rd_move rfl rfl) ?_; refine re_rd rfl rfl rfl rfl (rd_indexAddr rfl rfl rfl (indexAddr_slice (z := 17) Tryz.underlying25 (by kernel_rfl) ⟨by omega, by omega⟩)) ?_; refine re_rd rfl rfl rfl rfl (rd_load rfl rfl (loadN_row (z := 17) (by kernel_rfl) (by kernel_rfl) (row_move (hl.since 0 rfl) hrow2) htk2)) ?_
            refine re_allocL hl rfl rfl rfl rfl rfl (z := [.int .i64 0, .int .i64 0, .int .i64 0, .int .i64 0, .bool false, .int .i64 0, .bool false, .bool false, .int .i64 0, .int .i64 0, .int .i64 0, .int .i64 0, .bool false, .int .i64 0, .int .i64 0, .int .i64 0, .int .i64 0]) (by kernel_rfl) ?_; intro B7 S7 hl; refine re_rd rfl rfl rfl rfl (rd_assign rfl rfl) ?_; refine re_storeL hl 0 rfl rfl rfl rfl rfl rfl rfl (by kernel_rfl) rfl ?_; intro S1 hl; refine re_end rfl ?_; iterate 2 refine xp_seq rfl ?_
            refine xp_region rfl (by kernel_rfl) ?_; refine re_rd rfl rfl rfl rfl (rd_load rfl rfl (loadN_of (z := 17) (by kernel_rfl) (by kernel_rfl) (hl.get 0 rfl) rfl)) ?_
            refine re_callL hl rfl rfl rfl rfl rfl rfl rfl (spec49 y (hG.keep hl.keep)) ?_; rintro v S1 hk1 rfl hl
            refine re_rd rfl rfl rfl rfl (rd_assign rfl rfl) ?_; refine re_end rfl ?_; refine xp_seq rfl ?_; refine xp_region rfl (by kernel_rfl) ?_; refine re_rd rfl rfl rfl rfl (rd_move rfl rfl) ?_; refine re_rd rfl rfl rfl rfl (rd_bin rfl rfl rfl rfl) ?_; refine re_end rfl ?_; refine xp_cond rfl rfl (fun h45 => ?_) (fun h45 => ?_)
            ·
              refine xp_seq rfl ?_; refine xp_region rfl (by kernel_rfl) ?_; iterate 2 refine re_rd rfl rfl rfl rfl (rd_move rfl rfl) ?_
              iterate 2 refine re_rd rfl rfl rfl rfl (rd_assign rfl rfl) ?_
              refine re_end rfl ?_; refine xp_ret rfl ?_
              refine thn_ret (blk_ret (thn_ret (round_ret (blk_ret (blk_ret (thn_ret (round_ret (blk_ret (thn_ret (done_ret (ress_tmp rfl (ress_tmp rfl rfl)) ⟨hl.keep, res2 (by rw [hck, ← hpr, drop_nth' hx, spotsE_err h32 (by rw [← hin, drop_nth' hy, signsE_one h45]) h45])⟩))))))))))
            ·
              refine xp_skip rfl ?_; refine xp_seq rfl ?_
              obtain ⟨a3, cap3, hsl, hsg3⟩ := (hsg.move (hl.since 0 rfl)).front hlt2
              refine xp_draw (idx := [0, 1, 2, 3, 4, 5]) rfl (by kernel_rfl) (by kernel_rfl) ?_; refine rp_rd rfl rfl rfl rfl rfl (rd_fieldAddr rfl rfl (fieldAddr_at Tryz.underlying43 rfl (by kernel_rfl))) ?_; refine rp_lk rfl rfl rfl rfl rfl (rd_load rfl rfl (load1_of (by kernel_rfl) (hl.get 1 rfl) rfl)) ?_; refine rp_rd rfl rfl rfl rfl rfl (rd_move rfl rfl) ?_; refine rp_lk rfl rfl rfl rfl rfl (rd_slice rfl rfl rfl rfl rfl hsl) ?_; refine rp_lk rfl rfl rfl rfl rfl (rd_load rfl rfl (loadN_of (z := 17) (by kernel_rfl) (by kernel_rfl) (hl.get 0 rfl) rfl)) ?_
              refine rp_callL hl rfl rfl rfl rfl rfl rfl rfl (spec57 a3 cap3 (x.signs.take k) y (by rw [List.length_take]; omega) hsg3) ?_; rintro v S1 hk1 rfl hl; refine ⟨⟨stays_no (by kernel_rfl), stays_no (by kernel_rfl), stays_no (by kernel_rfl), trivial⟩, ?_⟩
              refine rp_end rfl ?_; refine xp_cond rfl rfl (fun h53 => ?_) (fun h53 => ?_)
              ·
                refine xp_seq rfl ?_; refine xp_region rfl (by kernel_rfl) ?_; refine re_rd rfl rfl rfl rfl (rd_move rfl rfl) ?_; iterate 2 refine re_rd rfl rfl rfl rfl (rd_assign rfl rfl) ?_
                refine re_end rfl ?_; refine xp_ret rfl ?_
                refine blk_ret (thn_ret (round_ret (blk_ret (blk_ret (thn_ret (round_ret (blk_ret (thn_ret (done_ret (ress_tmp rfl (ress_tmp rfl rfl)) ⟨hl.keep, res2 (by rw [hck, ← hpr, drop_nth' hx, spotsE_err h32 (by rw [← hin, drop_nth' hy, signsE_dup h45 h53]) rfl])⟩)))))))))
              ·
                refine xp_skip rfl ?_; refine xp_region rfl (by kernel_rfl) ?_; refine re_rd rfl rfl rfl rfl (rd_bin rfl rfl rfl rfl) ?_; refine re_rd rfl rfl rfl rfl (rd_move rfl rfl) ?_; refine re_end rfl ?_
                exact ⟨x.signs.length - (k + 1), by omega, k + 1, by omega, rfl, ⟨congrArg some (congrArg (Value.int .i64) (IntWalk.i64_in _ (by omega))), rfl, rfl, rfl, rfl, rfl, rfl, rfl, rfl, trivial⟩, by rw [take_nth' hy, ← signsE_step h45 h53, ← drop_nth' hy]; exact hin, hl.tail⟩
          ·
            refine xp_exit rfl ?_; refine xp_region rfl (by kernel_rfl) ?_; refine re_rd rfl rfl rfl rfl (rd_bin rfl rfl rfl rfl) ?_; refine re_rd rfl rfl rfl rfl (rd_move rfl rfl) ?_; refine re_end rfl ?_
            have he0 : signsE [] x.signs = 0 := by
              rw [← hin, List.drop_eq_nil_of_le (by have := of_decide_eq_false h38; omega)]; rfl
            exact ⟨L.length - (i + 1), by omega, i + 1, by omega, rfl, ⟨congrArg some (congrArg (Value.int .i64) (IntWalk.i64_in _ (by omega))), rfl, rfl, rfl, trivial⟩, by rw [← spotsE_step h32 he0, ← drop_nth' hx]; exact hpr, hl.tail⟩
      ·
        refine xp_exit rfl ?_; refine xp_seq rfl ?_; refine xp_region rfl (by kernel_rfl) ?_; iterate 2 refine re_rd rfl rfl rfl rfl (rd_assign rfl rfl) ?_
        refine re_end rfl ?_; refine xp_ret rfl ?_
        refine done_ret (ress_tmp rfl (ress_tmp rfl rfl)) ⟨hl.keep, res2 (by rw [hck, ← hpr, List.drop_eq_nil_of_le (by have := of_decide_eq_false h21; omega)]; rfl)⟩

end Go.Proofs.YtgnhcamhcnkbfaaGreatDoor

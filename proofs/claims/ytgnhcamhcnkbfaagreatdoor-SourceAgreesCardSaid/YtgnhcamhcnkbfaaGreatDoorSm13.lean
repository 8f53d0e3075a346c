/-
  The reference: spots, Check.
-/
import Derived.Test.YtgnhcamhcnkbfaaGreatDoorSm12
namespace Go.Proofs.YtgnhcamhcnkbfaaGreatDoor
open Go.Cm Go
set_option maxRecDepth 100000
variable {S : St}
def spotE (x : Spt) : Int := bif szB x then 3 else signsE [] x.signs
noncomputable def c44 : Code := Tryz.f44.body.getD .skip
theorem spec44 (a : Option Addr) (cap : Nat) (x : Spt) (hn : x.signs.length ≤ 1000) (hv : Signs S (.slice a x.signs.length cap) x.signs) : CC Tryz.prog KK 44 [aggL [.slice a x.signs.length cap, .bool x.blank]] S (fun v S' => Keep S S' ∧ v = .int .i64 (spotE x)) := by
  refine cc_enter (c := c44) (n := 39) Tryz.func44 rfl rfl rfl (by kernel_rfl) rfl rfl ?_
  have hl := Hold.start S
  refine xp_seq rfl ?_; refine xp_region rfl (by kernel_rfl) ?_; refine re_boxL hl rfl rfl rfl rfl rfl rfl ?_; intro B1 S1 hl; refine re_rd rfl rfl rfl rfl (rd_assign rfl rfl) ?_; refine re_end rfl ?_; refine xp_seq rfl ?_; refine xp_seq rfl (xe_toL hl [(12, .bool (szB x)), (1, ptrTo B1 0)] ?_ ?_)
  ·
    refine xp_region rfl (by kernel_rfl) ?_; refine re_rd rfl rfl rfl rfl (rd_load rfl rfl (loadN_of (z := 2) (by kernel_rfl) (by kernel_rfl) (hl.get 0 rfl) rfl)) ?_
    refine re_callL hl rfl rfl rfl rfl rfl rfl rfl (spec62 a x.signs.length cap x.blank hn) ?_; rintro v S1 hk1 rfl hl
    refine re_rd rfl rfl rfl rfl (rd_bin rfl rfl rfl rfl) ?_; refine re_rd rfl rfl rfl rfl (rd_move rfl rfl) ?_; refine re_bool (d := 8) rfl (fun h8 => ?_) (fun h8 => ?_)
    ·
      iterate 3 refine re_pass rfl rfl rfl rfl ?_
      refine re_rd rfl rfl rfl rfl (rd_pick_t rfl rfl rfl) ?_; refine re_end rfl ?_
      exact ⟨rfl, ⟨bl (by unfold szB sizeF; simp only [h8, BLs]), rfl, trivial⟩, hl⟩
    ·
      refine re_rd rfl rfl rfl rfl (rd_load rfl rfl (loadN_of (z := 2) (by kernel_rfl) (by kernel_rfl) (hl.get 0 rfl) rfl)) ?_
      refine re_callL hl rfl rfl rfl rfl rfl rfl rfl (spec62 a x.signs.length cap x.blank hn) ?_; rintro v S1 hk1 rfl hl
      refine re_rd rfl rfl rfl rfl (rd_bin rfl rfl rfl rfl) ?_; refine re_rd rfl rfl rfl rfl (rd_pick_f rfl rfl rfl) ?_; refine re_end rfl ?_
      exact ⟨rfl, ⟨bl (by unfold szB sizeF; simp only [h8, BLs]), rfl, trivial⟩, hl⟩
  intro S1 hl
  refine xp_cond rfl rfl (fun h12 => ?_) (fun h12 => ?_)
  ·
    refine xp_seq rfl ?_; refine xp_region rfl (by kernel_rfl) ?_; refine re_rd rfl rfl rfl rfl (rd_assign rfl rfl) ?_; refine re_end rfl ?_; refine xp_ret rfl ?_
    refine thn_ret (done_ret (ress_tmp rfl rfl) ⟨hl.keep, congrArg (Value.int .i64) (by unfold spotE; rw [h12]; rfl)⟩)
  ·
    refine xp_skip rfl ?_; iterate 2 refine xp_seq rfl ?_
    refine xp_region rfl (by kernel_rfl) ?_; refine re_rd rfl rfl rfl rfl (rd_assign rfl rfl) ?_; refine re_end rfl ?_; refine xp_block rfl ?_
    -- LOOP
    refine xe_sub (L' := [(3, .int .i64 0), (1, ptrTo B1 0)]) ⟨rfl, rfl, trivial⟩ ?_
    refine xp_loop rfl (fun m Le S' => ∃ k : Nat, k ≤ x.signs.length ∧ m = x.signs.length - k ∧ SubE [(3, .int .i64 (k : Int)), (1, ptrTo B1 0)] Le ∧ signsE (x.signs.take k) (x.signs.drop k) = signsE [] x.signs ∧ Hold S [S] S' [(B1, .cells [.slice a x.signs.length cap, .bool x.blank] 43 false true [])]) ?_ (m := x.signs.length) ⟨0, by omega, rfl, ⟨rfl, rfl, trivial⟩, rfl, hl⟩
    clear hl; rintro m Le S' ⟨k, hk, rfl, hsub, hin, hl⟩; refine xe_sub hsub ?_
    iterate 2 refine xp_seq rfl ?_
    refine xp_region rfl (by kernel_rfl) ?_; refine re_rd rfl rfl rfl rfl (rd_move rfl rfl) ?_; refine re_rd rfl rfl rfl rfl (rd_fieldAddr rfl rfl (fieldAddr_at Tryz.underlying43 rfl (by kernel_rfl))) ?_; refine re_rd rfl rfl rfl rfl (rd_load rfl rfl (load1_of (by kernel_rfl) (hl.get 0 rfl) rfl)) ?_; refine re_rd rfl rfl rfl rfl (rd_len rfl rfl (len_slice Tryz.underlying25)) ?_; refine re_rd rfl rfl rfl rfl (rd_bin rfl rfl rfl rfl) ?_; refine re_end rfl ?_; refine xp_cond rfl rfl (fun h17 => ?_) (fun h17 => ?_)
    ·
      have hlt : k < x.signs.length := by have := of_decide_eq_true h17; omega
      obtain ⟨y, hy⟩ := nth_some hlt
      obtain ⟨b2, o2, cs2, ha, _, hrow, htk⟩ := hv.elem hy
      refine xp_skip rfl ?_; refine xp_seq rfl ?_; refine xp_block rfl ?_; iterate 2 refine xp_seq rfl ?_
      refine xp_region rfl (by kernel_rfl) ?_; refine re_rd rfl rfl rfl rfl (rd_fieldAddr rfl rfl (fieldAddr_at Tryz.underlying43 rfl (by kernel_rfl))) ?_; refine re_rd rfl rfl rfl rfl (rd_load rfl rfl (load1_of (by kernel_rfl) (hl.get 0 rfl) rfl)) ?_; refine re_rd rfl rfl rfl rfl (rd_move rfl rfl) ?_; refine re_rd rfl rfl rfl rfl (rd_indexAddr rfl rfl rfl (indexAddr_sl (z := 17) ha Tryz.underlying25 (by kernel_rfl) ⟨by omega, by omega⟩)) ?_; refine re_rd rfl rfl rfl rfl (rd_load rfl rfl (loadN_row (z := 17) (by kernel_rfl) (by kernel_rfl) (row_move (hl.since 0 rfl) hrow) htk)) ?_
      refine re_callL hl rfl rfl rfl rfl rfl rfl rfl (spec45 y) ?_; rintro v S1 hk1 rfl hl
      refine re_rd rfl rfl rfl rfl (rd_assign rfl rfl) ?_; refine re_end rfl ?_; refine xp_seq rfl ?_; refine xp_region rfl (by kernel_rfl) ?_; refine re_rd rfl rfl rfl rfl (rd_move rfl rfl) ?_; refine re_rd rfl rfl rfl rfl (rd_bin rfl rfl rfl rfl) ?_; refine re_end rfl ?_; refine xp_cond rfl rfl (fun h27 => ?_) (fun h27 => ?_)
      ·
        refine xp_seq rfl ?_; refine xp_region rfl (by kernel_rfl) ?_; refine re_rd rfl rfl rfl rfl (rd_move rfl rfl) ?_; refine re_rd rfl rfl rfl rfl (rd_assign rfl rfl) ?_; refine re_end rfl ?_; refine xp_ret rfl ?_
        refine thn_ret (blk_ret (thn_ret (round_ret (blk_ret (thn_ret (done_ret (ress_tmp rfl rfl) ⟨hl.keep, congrArg (Value.int .i64) (by unfold spotE; rw [h12, ← hin, drop_nth' hy, signsE_one h27]; rfl)⟩))))))
      ·
        refine xp_skip rfl ?_; refine xp_seq rfl ?_
        obtain ⟨a3, cap3, hsl, hsg3⟩ := (hv.move (hl.since 0 rfl)).front hlt
        refine xp_draw (idx := [0, 1, 2, 3, 4, 5, 6, 7, 8, 9]) rfl (by kernel_rfl) (by kernel_rfl) ?_; refine rp_rd rfl rfl rfl rfl rfl (rd_fieldAddr rfl rfl (fieldAddr_at Tryz.underlying43 rfl (by kernel_rfl))) ?_; refine rp_lk rfl rfl rfl rfl rfl (rd_load rfl rfl (load1_of (by kernel_rfl) (hl.get 0 rfl) rfl)) ?_; refine rp_rd rfl rfl rfl rfl rfl (rd_move rfl rfl) ?_; refine rp_lk rfl rfl rfl rfl rfl (rd_slice rfl rfl rfl rfl rfl hsl) ?_; refine rp_rd rfl rfl rfl rfl rfl (rd_fieldAddr rfl rfl (fieldAddr_at Tryz.underlying43 rfl (by kernel_rfl))) ?_
        refine rp_lk rfl rfl rfl rfl rfl (rd_load rfl rfl (load1_of (by kernel_rfl) (hl.get 0 rfl) rfl)) ?_; refine rp_rd rfl rfl rfl rfl rfl (rd_move rfl rfl) ?_; refine rp_rd rfl rfl rfl rfl rfl (rd_indexAddr rfl rfl rfl (indexAddr_sl (z := 17) ha Tryz.underlying25 (by kernel_rfl) ⟨by omega, by omega⟩)) ?_; refine rp_lk rfl rfl rfl rfl rfl (rd_load rfl rfl (loadN_row (z := 17) (by kernel_rfl) (by kernel_rfl) (row_move (hl.since 0 rfl) hrow) htk)) ?_
        refine rp_callL hl rfl rfl rfl rfl rfl rfl rfl (spec47 a3 cap3 (x.signs.take k) y (by rw [List.length_take]; omega) hsg3) ?_; rintro v S1 hk1 rfl hl; refine ⟨stays_all (by kernel_rfl), ?_⟩
        refine rp_end rfl ?_; refine xp_cond rfl rfl (fun h38 => ?_) (fun h38 => ?_)
        ·
          refine xp_seq rfl ?_; refine xp_region rfl (by kernel_rfl) ?_; refine re_rd rfl rfl rfl rfl (rd_assign rfl rfl) ?_; refine re_end rfl ?_; refine xp_ret rfl ?_
          refine blk_ret (thn_ret (round_ret (blk_ret (thn_ret (done_ret (ress_tmp rfl rfl) ⟨hl.keep, congrArg (Value.int .i64) (by unfold spotE; rw [h12, ← hin, drop_nth' hy, signsE_dup h27 h38]; rfl)⟩)))))
        ·
          refine xp_skip rfl ?_; refine xp_region rfl (by kernel_rfl) ?_; refine re_rd rfl rfl rfl rfl (rd_move rfl rfl) ?_; refine re_rd rfl rfl rfl rfl (rd_bin rfl rfl rfl rfl) ?_; refine re_rd rfl rfl rfl rfl (rd_assign rfl rfl) ?_; refine re_end rfl ?_
          exact ⟨x.signs.length - (k + 1), by omega, k + 1, by omega, rfl, ⟨congrArg some (congrArg (Value.int .i64) (IntWalk.i64_in _ (by omega))), rfl, trivial⟩, by rw [take_nth' hy, ← signsE_step h27 h38, ← drop_nth' hy]; exact hin, hl⟩
    ·
      refine xp_exit rfl ?_; refine xp_seq rfl ?_; refine xp_region rfl (by kernel_rfl) ?_; refine re_rd rfl rfl rfl rfl (rd_assign rfl rfl) ?_; refine re_end rfl ?_; refine xp_ret rfl ?_
      refine done_ret (ress_tmp rfl rfl) ⟨hl.keep, congrArg (Value.int .i64) (by unfold spotE; rw [h12, ← hin, List.drop_eq_nil_of_le (by have := of_decide_eq_false h17; omega)]; rfl)⟩

theorem spotsE_ref {x : Spt} {r : List Spt} {i : Nat} (h : (spotE x != 0) = true) : spotsE (x :: r) i = (spotE x, (i : Int)) := by
  unfold spotE at *
  cases hb : szB x with
  | true => rw [spotsE_size hb]; rfl
  | false =>
    rw [hb] at h
    exact spotsE_err hb rfl h
theorem spotsE_go {x : Spt} {r : List Spt} {i : Nat} (h : (spotE x != 0) = false) : spotsE (x :: r) i = spotsE r (i + 1) := by
  unfold spotE at h
  cases hb : szB x with
  | true => rw [hb] at h; cases h
  | false =>
    rw [hb] at h
    refine spotsE_step hb ?_
    have h' : (signsE [] x.signs != 0) = false := h
    simpa using h'
noncomputable def c24 : Code := Tryz.f24.body.getD .skip
theorem spec24 (nm : ByteArray) (a : Option Addr) (cap : Nat) (L : List Spt) (hnm : nm.data.toList.length ≤ 1000) (hn : L.length ≤ 1000) (hs : ∀ x, x ∈ L → x.signs.length ≤ 1000) (hv : Spots S (.slice a L.length cap) L) : CC Tryz.prog KK 24 [aggL [.string nm, .slice a L.length cap]] S (fun v S' => Keep S S' ∧ v = tupV [.int .i64 (checkF nm.data.toList L).1, .int .i64 (checkF nm.data.toList L).2]) := by
  refine cc_enter (c := c24) (n := 31) Tryz.func24 rfl rfl rfl (by kernel_rfl) rfl rfl ?_
  have hl := Hold.start S
  refine xp_seq rfl ?_; refine xp_region rfl (by kernel_rfl) ?_; refine re_boxL hl rfl rfl rfl rfl rfl rfl ?_; intro B1 S1 hl; iterate 2 refine re_rd rfl rfl rfl rfl (rd_assign rfl rfl) ?_
  refine re_end rfl ?_; iterate 2 refine xp_seq rfl ?_
  refine xp_region rfl (by kernel_rfl) ?_; refine re_rd rfl rfl rfl rfl (rd_fieldAddr rfl rfl (fieldAddr_at Tryz.underlying24 rfl (by kernel_rfl))) ?_; refine re_rd rfl rfl rfl rfl (rd_load rfl rfl (load1_of (by kernel_rfl) (hl.get 0 rfl) rfl)) ?_
  refine re_callL hl rfl rfl rfl rfl rfl rfl rfl (spec43 nm hnm) ?_; rintro v S1 hk1 rfl hl
  refine re_rd rfl rfl rfl rfl (rd_un rfl rfl rfl) ?_; refine re_end rfl ?_; refine xp_cond rfl rfl (fun h9 => ?_) (fun h9 => ?_)
  ·
    refine xp_seq rfl ?_; refine xp_region rfl (by kernel_rfl) ?_; iterate 2 refine re_rd rfl rfl rfl rfl (rd_assign rfl rfl) ?_
    refine re_end rfl ?_; refine xp_ret rfl ?_
    refine thn_ret (done_ret (ress_tmp rfl (ress_tmp rfl rfl)) ⟨hl.keep, res2 (by unfold checkF; rw [h9]; rfl)⟩)
  ·
    refine xp_skip rfl ?_; iterate 2 refine xp_seq rfl ?_
    refine xp_region rfl (by kernel_rfl) ?_; refine re_rd rfl rfl rfl rfl (rd_fieldAddr rfl rfl (fieldAddr_at Tryz.underlying24 rfl (by kernel_rfl))) ?_; refine re_rd rfl rfl rfl rfl (rd_load rfl rfl (load1_of (by kernel_rfl) (hl.get 0 rfl) rfl)) ?_; refine re_rd rfl rfl rfl rfl (rd_len rfl rfl (len_slice Tryz.underlying22)) ?_; refine re_rd rfl rfl rfl rfl (rd_bin rfl rfl rfl rfl) ?_; refine re_end rfl ?_; refine xp_cond rfl rfl (fun h13 => ?_) (fun h13 => ?_)
    ·
      refine xp_seq rfl ?_; refine xp_region rfl (by kernel_rfl) ?_; iterate 2 refine re_rd rfl rfl rfl rfl (rd_assign rfl rfl) ?_
      refine re_end rfl ?_; refine xp_ret rfl ?_
      refine thn_ret (done_ret (ress_tmp rfl (ress_tmp rfl rfl)) ⟨hl.keep, res2 (by unfold checkF; rw [h9, h13]; rfl)⟩)
    ·
      refine xp_skip rfl ?_; iterate 2 refine xp_seq rfl ?_
      refine xp_region rfl (by kernel_rfl) ?_; refine re_rd rfl rfl rfl rfl (rd_assign rfl rfl) ?_; refine re_end rfl ?_; refine xp_block rfl ?_
      -- LOOP
      have hck : checkF nm.data.toList L = spotsE L 0 := by unfold checkF; rw [h9, h13]; rfl
      refine xe_sub (L' := [(4, .int .i64 0), (1, ptrTo B1 0)]) ⟨rfl, rfl, trivial⟩ ?_
      refine xp_loop rfl (fun m Le S' => ∃ i : Nat, i ≤ L.length ∧ m = L.length - i ∧ SubE [(4, .int .i64 (i : Int)), (1, ptrTo B1 0)] Le ∧ spotsE (L.drop i) i = spotsE L 0 ∧ Hold S [S] S' [(B1, .cells [.string nm, .slice a L.length cap] 24 false true [])]) ?_ (m := L.length) ⟨0, by omega, rfl, ⟨rfl, rfl, trivial⟩, rfl, hl⟩
      clear hl; rintro m Le S' ⟨i, hi, rfl, hsub, hpr, hl⟩; refine xe_sub hsub ?_
      iterate 2 refine xp_seq rfl ?_
      refine xp_region rfl (by kernel_rfl) ?_; refine re_rd rfl rfl rfl rfl (rd_move rfl rfl) ?_; refine re_rd rfl rfl rfl rfl (rd_fieldAddr rfl rfl (fieldAddr_at Tryz.underlying24 rfl (by kernel_rfl))) ?_; refine re_rd rfl rfl rfl rfl (rd_load rfl rfl (load1_of (by kernel_rfl) (hl.get 0 rfl) rfl)) ?_; refine re_rd rfl rfl rfl rfl (rd_len rfl rfl (len_slice Tryz.underlying22)) ?_; refine re_rd rfl rfl rfl rfl (rd_bin rfl rfl rfl rfl) ?_; refine re_end rfl ?_; refine xp_cond rfl rfl (fun h18 => ?_) (fun h18 => ?_)
      ·
        have hlt : i < L.length := by have := of_decide_eq_true h18; omega
        obtain ⟨x, hx⟩ := nth_some hlt
        obtain ⟨bx, ox, csx, ax, capx, hax, hrowx, htkx, hsgx⟩ := hv.elem hx
        have hxs : x.signs.length ≤ 1000 := hs x (nth_mem hx)
        refine xp_skip rfl ?_; refine xp_seq rfl ?_; refine xp_block rfl ?_; refine xp_seq rfl ?_; refine xp_region rfl (by kernel_rfl) ?_; refine re_rd rfl rfl rfl rfl (rd_fieldAddr rfl rfl (fieldAddr_at Tryz.underlying24 rfl (by kernel_rfl))) ?_; refine re_rd rfl rfl rfl rfl (rd_load rfl rfl (load1_of (by kernel_rfl) (hl.get 0 rfl) rfl)) ?_; refine re_rd rfl rfl rfl rfl (rd_move rfl rfl) ?_; refine re_rd rfl rfl rfl rfl (rd_indexAddr rfl rfl rfl (indexAddr_sl (z := 2) hax Tryz.underlying22 (by kernel_rfl) ⟨by omega, by omega⟩)) ?_
        refine re_rd rfl rfl rfl rfl (rd_load rfl rfl (loadN_row (z := 2) (by kernel_rfl) (by kernel_rfl) (row_move (hl.since 0 rfl) hrowx) htkx)) ?_
        refine re_callL hl rfl rfl rfl rfl rfl rfl rfl (spec44 ax capx x hxs (hsgx.move (hl.since 0 rfl))) ?_; rintro v S1 hk1 rfl hl
        refine re_rd rfl rfl rfl rfl (rd_assign rfl rfl) ?_; refine re_end rfl ?_; refine xp_seq rfl ?_; refine xp_region rfl (by kernel_rfl) ?_; refine re_rd rfl rfl rfl rfl (rd_move rfl rfl) ?_; refine re_rd rfl rfl rfl rfl (rd_bin rfl rfl rfl rfl) ?_; refine re_end rfl ?_; refine xp_cond rfl rfl (fun h28 => ?_) (fun h28 => ?_)
        ·
          refine xp_seq rfl ?_; refine xp_region rfl (by kernel_rfl) ?_; iterate 2 refine re_rd rfl rfl rfl rfl (rd_move rfl rfl) ?_
          iterate 2 refine re_rd rfl rfl rfl rfl (rd_assign rfl rfl) ?_
          refine re_end rfl ?_; refine xp_ret rfl ?_
          refine blk_ret (thn_ret (round_ret (blk_ret (thn_ret (done_ret (ress_tmp rfl (ress_tmp rfl rfl)) ⟨hl.keep, res2 (by rw [hck, ← hpr, drop_nth' hx, spotsE_ref h28])⟩)))))
        ·
          refine xp_skip rfl ?_; refine xp_region rfl (by kernel_rfl) ?_; refine re_rd rfl rfl rfl rfl (rd_move rfl rfl) ?_; refine re_rd rfl rfl rfl rfl (rd_bin rfl rfl rfl rfl) ?_; refine re_rd rfl rfl rfl rfl (rd_assign rfl rfl) ?_; refine re_end rfl ?_
          exact ⟨L.length - (i + 1), by omega, i + 1, by omega, rfl, ⟨congrArg some (congrArg (Value.int .i64) (IntWalk.i64_in _ (by omega))), rfl, trivial⟩, by rw [← spotsE_go h28, ← drop_nth' hx]; exact hpr, hl⟩
      ·
        refine xp_exit rfl ?_; refine xp_seq rfl ?_; refine xp_region rfl (by kernel_rfl) ?_; iterate 2 refine re_rd rfl rfl rfl rfl (rd_assign rfl rfl) ?_
        refine re_end rfl ?_; refine xp_ret rfl ?_
        refine done_ret (ress_tmp rfl (ress_tmp rfl rfl)) ⟨hl.keep, res2 (by rw [hck, ← hpr, List.drop_eq_nil_of_le (by have := of_decide_eq_false h18; omega)]; rfl)⟩

end Go.Proofs.YtgnhcamhcnkbfaaGreatDoor

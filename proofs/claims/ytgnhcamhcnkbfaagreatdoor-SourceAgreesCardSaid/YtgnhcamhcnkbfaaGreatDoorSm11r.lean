/-
  The reference: ranges.
-/
import Derived.Test.YtgnhcamhcnkbfaaGreatDoorSm11
namespace Go.Proofs.YtgnhcamhcnkbfaaGreatDoor
open Go.Cm Go
set_option maxRecDepth 100000
variable {S : St}
noncomputable def c65 : Code := Tryz.f65.body.getD .skip
theorem spec65 (s : Sg) (k1 : 1 ≤ s.kind) (k2 : s.kind ≤ 12) : CC Tryz.prog KK 65 [s.v] S (fun v S' => Keep S S' ∧ v = .bool (rangedF s (ub s.kind 0) (ub s.kind 1) (ub s.kind 2) (ub s.kind 4) (ub s.kind 10) (ub s.kind 11))) := by
  refine cc_enter (c := c65) (n := 84) Tryz.func65 rfl rfl rfl (by kernel_rfl) rfl rfl ?_
  have hl := Hold.start S
  refine xp_seq rfl ?_; refine xp_region rfl (by kernel_rfl) ?_; refine re_boxL hl rfl rfl rfl rfl rfl rfl ?_; intro B1 S1 hl; refine re_rd rfl rfl rfl rfl (rd_assign rfl rfl) ?_; refine re_end rfl ?_; iterate 2 refine xp_seq rfl ?_
  refine xp_region rfl (by kernel_rfl) ?_; refine re_rd rfl rfl rfl rfl (rd_fieldAddr rfl rfl (fieldAddr_at Tryz.underlying54 rfl (by kernel_rfl))) ?_; refine re_rd rfl rfl rfl rfl (rd_load rfl rfl (load1_of (by kernel_rfl) (hl.get 0 rfl) rfl)) ?_; refine re_end rfl ?_; refine xp_block rfl ?_; refine xp_seq rfl ?_; refine xp_region rfl (by kernel_rfl) ?_; refine re_rd rfl rfl rfl rfl (rd_bin rfl rfl rfl rfl) ?_; refine re_rd rfl rfl rfl rfl (rd_assign rfl rfl) ?_; refine re_end rfl ?_; refine xp_cond rfl rfl (fun h5 => ?_) (fun h5 => ?_)
  ·
    refine xp_seq rfl ?_; refine xp_region rfl (by kernel_rfl) ?_; refine re_rd rfl rfl rfl rfl (rd_fieldAddr rfl rfl (fieldAddr_at Tryz.underlying54 rfl (by kernel_rfl))) ?_; refine re_rd rfl rfl rfl rfl (rd_load rfl rfl (load1_of (by kernel_rfl) (hl.get 0 rfl) rfl)) ?_
    refine re_callL hl rfl rfl rfl rfl rfl rfl rfl (spec77 _ _ _) ?_; rintro v S1 hk1 rfl hl
    refine re_rd rfl rfl rfl rfl (rd_move rfl rfl) ?_; refine re_bool (d := 10) rfl (fun h10 => ?_) (fun h10 => ?_)
    ·
      refine re_rd rfl rfl rfl rfl (rd_fieldAddr rfl rfl (fieldAddr_at Tryz.underlying54 rfl (by kernel_rfl))) ?_; refine re_rd rfl rfl rfl rfl (rd_load rfl rfl (load1_of (by kernel_rfl) (hl.get 0 rfl) rfl)) ?_
      refine re_callL hl rfl rfl rfl rfl rfl rfl rfl (spec77 _ _ _) ?_; rintro v S1 hk1 rfl hl
      refine re_rd rfl rfl rfl rfl (rd_pick_t rfl rfl rfl) ?_; refine re_rd rfl rfl rfl rfl (rd_move rfl rfl) ?_; refine re_bool (d := 15) rfl (fun h15 => ?_) (fun h15 => ?_)
      ·
        refine re_rd rfl rfl rfl rfl (rd_fieldAddr rfl rfl (fieldAddr_at Tryz.underlying54 rfl (by kernel_rfl))) ?_; refine re_rd rfl rfl rfl rfl (rd_load rfl rfl (load1_of (by kernel_rfl) (hl.get 0 rfl) rfl)) ?_
        refine re_callL hl rfl rfl rfl rfl rfl rfl rfl (spec77 _ _ _) ?_; rintro v S1 hk1 rfl hl
        refine re_rd rfl rfl rfl rfl (rd_pick_t rfl rfl rfl) ?_; refine re_rd rfl rfl rfl rfl (rd_assign rfl rfl) ?_; refine re_end rfl ?_; refine xp_ret rfl ?_
        refine blk_ret (thn_ret (done_ret (ress_tmp rfl rfl) ⟨hl.keep, congrArg Value.bool (by rcases kind_cases k1 k2 with hk | hk | hk | hk | hk | hk | hk | hk | hk | hk | hk | hk <;> first | (exfalso; simp [hk] at h15 h10 h5; done) | (rw [rng_1 hk]; unfold rangedF; simp only [hk, h15, h10, BLs, Int.reduceBEq]; done) | (rw [rng_1 hk]; unfold rangedF; simp [hk, h15, h10]; done) | (rw [rng_1 hk]; unfold rangedF; simp only [h15, h10]; simp [hk]; done))⟩))
      ·
        iterate 3 refine re_pass rfl rfl rfl rfl ?_
        refine re_rd rfl rfl rfl rfl (rd_pick_f rfl rfl rfl) ?_; refine re_rd rfl rfl rfl rfl (rd_assign rfl rfl) ?_; refine re_end rfl ?_; refine xp_ret rfl ?_
        refine blk_ret (thn_ret (done_ret (ress_tmp rfl rfl) ⟨hl.keep, congrArg Value.bool (by rcases kind_cases k1 k2 with hk | hk | hk | hk | hk | hk | hk | hk | hk | hk | hk | hk <;> first | (exfalso; simp [hk] at h15 h10 h5; done) | (rw [rng_1 hk]; unfold rangedF; simp only [hk, h15, h10, BLs, Int.reduceBEq]; done) | (rw [rng_1 hk]; unfold rangedF; simp [hk, h15, h10]; done) | (rw [rng_1 hk]; unfold rangedF; simp only [h15, h10]; simp [hk]; done))⟩))
    ·
      iterate 3 refine re_pass rfl rfl rfl rfl ?_
      refine re_rd rfl rfl rfl rfl (rd_pick_f rfl rfl rfl) ?_; refine re_rd rfl rfl rfl rfl (rd_move rfl rfl) ?_; iterate 3 refine re_pass rfl rfl rfl rfl ?_
      refine re_rd rfl rfl rfl rfl (rd_pick_f rfl rfl rfl) ?_; refine re_rd rfl rfl rfl rfl (rd_assign rfl rfl) ?_; refine re_end rfl ?_; refine xp_ret rfl ?_
      refine blk_ret (thn_ret (done_ret (ress_tmp rfl rfl) ⟨hl.keep, congrArg Value.bool (by rcases kind_cases k1 k2 with hk | hk | hk | hk | hk | hk | hk | hk | hk | hk | hk | hk <;> first | (exfalso; simp [hk] at h10 h5; done) | (rw [rng_1 hk]; unfold rangedF; simp only [hk, h10, BLs, Int.reduceBEq]; done) | (rw [rng_1 hk]; unfold rangedF; simp [hk, h10]; done) | (rw [rng_1 hk]; unfold rangedF; simp only [h10]; simp [hk]; done))⟩))
  ·
    refine xp_seq rfl ?_; refine xp_region rfl (by kernel_rfl) ?_; refine re_rd rfl rfl rfl rfl (rd_bin rfl rfl rfl rfl) ?_; refine re_rd rfl rfl rfl rfl (rd_assign rfl rfl) ?_; refine re_end rfl ?_; refine xp_cond rfl rfl (fun h20 => ?_) (fun h20 => ?_)
    ·
      refine xp_seq rfl ?_; refine xp_region rfl (by kernel_rfl) ?_; refine re_rd rfl rfl rfl rfl (rd_fieldAddr rfl rfl (fieldAddr_at Tryz.underlying54 rfl (by kernel_rfl))) ?_; refine re_rd rfl rfl rfl rfl (rd_load rfl rfl (load1_of (by kernel_rfl) (hl.get 0 rfl) rfl)) ?_
      refine re_callL hl rfl rfl rfl rfl rfl rfl rfl (spec77 _ _ _) ?_; rintro v S1 hk1 rfl hl
      refine re_rd rfl rfl rfl rfl (rd_assign rfl rfl) ?_; refine re_end rfl ?_; refine xp_ret rfl ?_
      refine blk_ret (thn_ret (done_ret (ress_tmp rfl rfl) ⟨hl.keep, congrArg Value.bool (by rcases kind_cases k1 k2 with hk | hk | hk | hk | hk | hk | hk | hk | hk | hk | hk | hk <;> first | (exfalso; simp [hk] at h20 h5; done) | (rw [rng_2 hk]; unfold rangedF; simp only [hk, hk, BLs, Int.reduceBEq]; done) | (rw [rng_2 hk]; unfold rangedF; simp [hk, hk]; done) | (rw [rng_2 hk]; unfold rangedF; simp only [hk]; simp [hk]; done))⟩))
    ·
      refine xp_seq rfl ?_; refine xp_region rfl (by kernel_rfl) ?_; refine re_rd rfl rfl rfl rfl (rd_bin rfl rfl rfl rfl) ?_; refine re_rd rfl rfl rfl rfl (rd_assign rfl rfl) ?_; refine re_end rfl ?_; refine xp_cond rfl rfl (fun h25 => ?_) (fun h25 => ?_)
      ·
        refine xp_seq rfl ?_; refine xp_region rfl (by kernel_rfl) ?_; refine re_rd rfl rfl rfl rfl (rd_fieldAddr rfl rfl (fieldAddr_at Tryz.underlying54 rfl (by kernel_rfl))) ?_; refine re_rd rfl rfl rfl rfl (rd_load rfl rfl (load1_of (by kernel_rfl) (hl.get 0 rfl) rfl)) ?_
        refine re_callL hl rfl rfl rfl rfl rfl rfl rfl (spec77 _ _ _) ?_; rintro v S1 hk1 rfl hl
        refine re_rd rfl rfl rfl rfl (rd_move rfl rfl) ?_; refine re_bool (d := 30) rfl (fun h30 => ?_) (fun h30 => ?_)
        ·
          refine re_rd rfl rfl rfl rfl (rd_fieldAddr rfl rfl (fieldAddr_at Tryz.underlying54 rfl (by kernel_rfl))) ?_; refine re_rd rfl rfl rfl rfl (rd_load rfl rfl (load1_of (by kernel_rfl) (hl.get 0 rfl) rfl)) ?_
          refine re_callL hl rfl rfl rfl rfl rfl rfl rfl (spec77 _ _ _) ?_; rintro v S1 hk1 rfl hl
          refine re_rd rfl rfl rfl rfl (rd_pick_t rfl rfl rfl) ?_; refine re_rd rfl rfl rfl rfl (rd_move rfl rfl) ?_; refine re_bool (d := 35) rfl (fun h35 => ?_) (fun h35 => ?_)
          ·
            refine re_rd rfl rfl rfl rfl (rd_fieldAddr rfl rfl (fieldAddr_at Tryz.underlying54 rfl (by kernel_rfl))) ?_; refine re_rd rfl rfl rfl rfl (rd_load rfl rfl (load1_of (by kernel_rfl) (hl.get 0 rfl) rfl)) ?_
            refine re_callL hl rfl rfl rfl rfl rfl rfl rfl (spec77 _ _ _) ?_; rintro v S1 hk1 rfl hl
            refine re_rd rfl rfl rfl rfl (rd_pick_t rfl rfl rfl) ?_; refine re_rd rfl rfl rfl rfl (rd_assign rfl rfl) ?_; refine re_end rfl ?_; refine xp_ret rfl ?_
            refine blk_ret (thn_ret (done_ret (ress_tmp rfl rfl) ⟨hl.keep, congrArg Value.bool (by rcases kind_cases k1 k2 with hk | hk | hk | hk | hk | hk | hk | hk | hk | hk | hk | hk <;> first | (exfalso; simp [hk] at h35 h30 h25 h20 h5; done) | (rw [rng_4 hk]; unfold rangedF; simp only [hk, h35, h30, BLs, Int.reduceBEq]; done) | (rw [rng_4 hk]; unfold rangedF; simp [hk, h35, h30]; done) | (rw [rng_4 hk]; unfold rangedF; simp only [h35, h30]; simp [hk]; done))⟩))
          ·
            iterate 3 refine re_pass rfl rfl rfl rfl ?_
            refine re_rd rfl rfl rfl rfl (rd_pick_f rfl rfl rfl) ?_; refine re_rd rfl rfl rfl rfl (rd_assign rfl rfl) ?_; refine re_end rfl ?_; refine xp_ret rfl ?_
            refine blk_ret (thn_ret (done_ret (ress_tmp rfl rfl) ⟨hl.keep, congrArg Value.bool (by rcases kind_cases k1 k2 with hk | hk | hk | hk | hk | hk | hk | hk | hk | hk | hk | hk <;> first | (exfalso; simp [hk] at h35 h30 h25 h20 h5; done) | (rw [rng_4 hk]; unfold rangedF; simp only [hk, h35, h30, BLs, Int.reduceBEq]; done) | (rw [rng_4 hk]; unfold rangedF; simp [hk, h35, h30]; done) | (rw [rng_4 hk]; unfold rangedF; simp only [h35, h30]; simp [hk]; done))⟩))
        ·
          iterate 3 refine re_pass rfl rfl rfl rfl ?_
          refine re_rd rfl rfl rfl rfl (rd_pick_f rfl rfl rfl) ?_; refine re_rd rfl rfl rfl rfl (rd_move rfl rfl) ?_; iterate 3 refine re_pass rfl rfl rfl rfl ?_
          refine re_rd rfl rfl rfl rfl (rd_pick_f rfl rfl rfl) ?_; refine re_rd rfl rfl rfl rfl (rd_assign rfl rfl) ?_; refine re_end rfl ?_; refine xp_ret rfl ?_
          refine blk_ret (thn_ret (done_ret (ress_tmp rfl rfl) ⟨hl.keep, congrArg Value.bool (by rcases kind_cases k1 k2 with hk | hk | hk | hk | hk | hk | hk | hk | hk | hk | hk | hk <;> first | (exfalso; simp [hk] at h30 h25 h20 h5; done) | (rw [rng_4 hk]; unfold rangedF; simp only [hk, h30, BLs, Int.reduceBEq]; done) | (rw [rng_4 hk]; unfold rangedF; simp [hk, h30]; done) | (rw [rng_4 hk]; unfold rangedF; simp only [h30]; simp [hk]; done))⟩))
      ·
        refine xp_seq rfl ?_; refine xp_region rfl (by kernel_rfl) ?_; refine re_rd rfl rfl rfl rfl (rd_bin rfl rfl rfl rfl) ?_; refine re_rd rfl rfl rfl rfl (rd_assign rfl rfl) ?_; refine re_end rfl ?_; refine xp_cond rfl rfl (fun h40 => ?_) (fun h40 => ?_)
        ·
          refine xp_seq rfl ?_; refine xp_region rfl (by kernel_rfl) ?_; refine re_rd rfl rfl rfl rfl (rd_fieldAddr rfl rfl (fieldAddr_at Tryz.underlying54 rfl (by kernel_rfl))) ?_; refine re_rd rfl rfl rfl rfl (rd_load rfl rfl (load1_of (by kernel_rfl) (hl.get 0 rfl) rfl)) ?_
          refine re_callL hl rfl rfl rfl rfl rfl rfl rfl (spec77 _ _ _) ?_; rintro v S1 hk1 rfl hl
          refine re_rd rfl rfl rfl rfl (rd_move rfl rfl) ?_; refine re_bool (d := 45) rfl (fun h45 => ?_) (fun h45 => ?_)
          ·
            refine re_rd rfl rfl rfl rfl (rd_fieldAddr rfl rfl (fieldAddr_at Tryz.underlying54 rfl (by kernel_rfl))) ?_; refine re_rd rfl rfl rfl rfl (rd_load rfl rfl (load1_of (by kernel_rfl) (hl.get 0 rfl) rfl)) ?_
            refine re_callL hl rfl rfl rfl rfl rfl rfl rfl (spec77 _ _ _) ?_; rintro v S1 hk1 rfl hl
            refine re_rd rfl rfl rfl rfl (rd_pick_t rfl rfl rfl) ?_; refine re_rd rfl rfl rfl rfl (rd_assign rfl rfl) ?_; refine re_end rfl ?_; refine xp_ret rfl ?_
            refine blk_ret (thn_ret (done_ret (ress_tmp rfl rfl) ⟨hl.keep, congrArg Value.bool (by rcases kind_cases k1 k2 with hk | hk | hk | hk | hk | hk | hk | hk | hk | hk | hk | hk <;> first | (exfalso; simp [hk] at h45 h40 h25 h20 h5; done) | (rw [rng_6 hk]; unfold rangedF; simp only [hk, h45, BLs, Int.reduceBEq]; done) | (rw [rng_6 hk]; unfold rangedF; simp [hk, h45]; done) | (rw [rng_6 hk]; unfold rangedF; simp only [h45]; simp [hk]; done))⟩))
          ·
            iterate 3 refine re_pass rfl rfl rfl rfl ?_
            refine re_rd rfl rfl rfl rfl (rd_pick_f rfl rfl rfl) ?_; refine re_rd rfl rfl rfl rfl (rd_assign rfl rfl) ?_; refine re_end rfl ?_; refine xp_ret rfl ?_
            refine blk_ret (thn_ret (done_ret (ress_tmp rfl rfl) ⟨hl.keep, congrArg Value.bool (by rcases kind_cases k1 k2 with hk | hk | hk | hk | hk | hk | hk | hk | hk | hk | hk | hk <;> first | (exfalso; simp [hk] at h45 h40 h25 h20 h5; done) | (rw [rng_6 hk]; unfold rangedF; simp only [hk, h45, BLs, Int.reduceBEq]; done) | (rw [rng_6 hk]; unfold rangedF; simp [hk, h45]; done) | (rw [rng_6 hk]; unfold rangedF; simp only [h45]; simp [hk]; done))⟩))
        ·
          refine xp_seq rfl ?_; refine xp_region rfl (by kernel_rfl) ?_; refine re_rd rfl rfl rfl rfl (rd_bin rfl rfl rfl rfl) ?_; refine re_rd rfl rfl rfl rfl (rd_assign rfl rfl) ?_; refine re_end rfl ?_; refine xp_cond rfl rfl (fun h50 => ?_) (fun h50 => ?_)
          ·
            refine xp_seq rfl ?_; refine xp_region rfl (by kernel_rfl) ?_; refine re_rd rfl rfl rfl rfl (rd_fieldAddr rfl rfl (fieldAddr_at Tryz.underlying54 rfl (by kernel_rfl))) ?_; refine re_rd rfl rfl rfl rfl (rd_fieldAddr rfl rfl (fieldAddr_at Tryz.underlying52 rfl (by kernel_rfl))) ?_; refine re_rd rfl rfl rfl rfl (rd_load rfl rfl (load1_of (by kernel_rfl) (hl.get 0 rfl) rfl)) ?_; refine re_rd rfl rfl rfl rfl (rd_bin rfl rfl rfl rfl) ?_; refine re_rd rfl rfl rfl rfl (rd_move rfl rfl) ?_; refine re_bool (d := 56) rfl (fun h56 => ?_) (fun h56 => ?_)
            ·
              iterate 4 refine re_pass rfl rfl rfl rfl ?_
              refine re_rd rfl rfl rfl rfl (rd_pick_t rfl rfl rfl) ?_; refine re_rd rfl rfl rfl rfl (rd_move rfl rfl) ?_; iterate 4 refine re_pass rfl rfl rfl rfl ?_
              refine re_rd rfl rfl rfl rfl (rd_pick_t rfl rfl rfl) ?_; refine re_rd rfl rfl rfl rfl (rd_move rfl rfl) ?_; refine re_rd rfl rfl rfl rfl (rd_fieldAddr rfl rfl (fieldAddr_at Tryz.underlying54 rfl (by kernel_rfl))) ?_; refine re_rd rfl rfl rfl rfl (rd_fieldAddr rfl rfl (fieldAddr_at Tryz.underlying52 rfl (by kernel_rfl))) ?_; refine re_rd rfl rfl rfl rfl (rd_load rfl rfl (load1_of (by kernel_rfl) (hl.get 0 rfl) rfl)) ?_
              refine re_callL hl rfl rfl rfl rfl rfl rfl rfl (spec77 _ _ _) ?_; rintro v S1 hk1 rfl hl
              refine re_rd rfl rfl rfl rfl (rd_pick_t rfl rfl rfl) ?_; refine re_rd rfl rfl rfl rfl (rd_assign rfl rfl) ?_; refine re_end rfl ?_; refine xp_ret rfl ?_
              refine blk_ret (thn_ret (done_ret (ress_tmp rfl rfl) ⟨hl.keep, congrArg Value.bool (by rcases kind_cases k1 k2 with hk | hk | hk | hk | hk | hk | hk | hk | hk | hk | hk | hk <;> first | (exfalso; simp [hk] at h56 h50 h40 h25 h20 h5; done) | (rw [rng_7 hk]; unfold rangedF; simp only [hk, h56, BLs, Int.reduceBEq]; done) | (rw [rng_7 hk]; unfold rangedF; simp [hk, h56]; done) | (rw [rng_7 hk]; unfold rangedF; simp only [h56]; simp [hk]; done) | (rw [rng_7 hk]; unfold rangedF; simp only [bne, hk, h56, BLs, Int.reduceBEq]; done))⟩))
            ·
              refine re_rd rfl rfl rfl rfl (rd_fieldAddr rfl rfl (fieldAddr_at Tryz.underlying54 rfl (by kernel_rfl))) ?_; refine re_rd rfl rfl rfl rfl (rd_fieldAddr rfl rfl (fieldAddr_at Tryz.underlying52 rfl (by kernel_rfl))) ?_; refine re_rd rfl rfl rfl rfl (rd_load rfl rfl (load1_of (by kernel_rfl) (hl.get 0 rfl) rfl)) ?_; refine re_rd rfl rfl rfl rfl (rd_bin rfl rfl rfl rfl) ?_; refine re_rd rfl rfl rfl rfl (rd_pick_f rfl rfl rfl) ?_; refine re_rd rfl rfl rfl rfl (rd_move rfl rfl) ?_; refine re_bool (d := 62) rfl (fun h62 => ?_) (fun h62 => ?_)
              ·
                iterate 4 refine re_pass rfl rfl rfl rfl ?_
                refine re_rd rfl rfl rfl rfl (rd_pick_t rfl rfl rfl) ?_; refine re_rd rfl rfl rfl rfl (rd_move rfl rfl) ?_; refine re_rd rfl rfl rfl rfl (rd_fieldAddr rfl rfl (fieldAddr_at Tryz.underlying54 rfl (by kernel_rfl))) ?_; refine re_rd rfl rfl rfl rfl (rd_fieldAddr rfl rfl (fieldAddr_at Tryz.underlying52 rfl (by kernel_rfl))) ?_; refine re_rd rfl rfl rfl rfl (rd_load rfl rfl (load1_of (by kernel_rfl) (hl.get 0 rfl) rfl)) ?_
                refine re_callL hl rfl rfl rfl rfl rfl rfl rfl (spec77 _ _ _) ?_; rintro v S1 hk1 rfl hl
                refine re_rd rfl rfl rfl rfl (rd_pick_t rfl rfl rfl) ?_; refine re_rd rfl rfl rfl rfl (rd_assign rfl rfl) ?_; refine re_end rfl ?_; refine xp_ret rfl ?_
                refine blk_ret (thn_ret (done_ret (ress_tmp rfl rfl) ⟨hl.keep, congrArg Value.bool (by rcases kind_cases k1 k2 with hk | hk | hk | hk | hk | hk | hk | hk | hk | hk | hk | hk <;> first | (exfalso; simp [hk] at h62 h56 h50 h40 h25 h20 h5; done) | (rw [rng_7 hk]; unfold rangedF; simp only [hk, h62, h56, BLs, Int.reduceBEq]; done) | (rw [rng_7 hk]; unfold rangedF; simp [hk, h62, h56]; done) | (rw [rng_7 hk]; unfold rangedF; simp only [h62, h56]; simp [hk]; done) | (rw [rng_7 hk]; unfold rangedF; simp only [bne, hk, h62, h56, BLs, Int.reduceBEq]; done))⟩))
              ·
                refine re_rd rfl rfl rfl rfl (rd_fieldAddr rfl rfl (fieldAddr_at Tryz.underlying54 rfl (by kernel_rfl))) ?_; refine re_rd rfl rfl rfl rfl (rd_fieldAddr rfl rfl (fieldAddr_at Tryz.underlying52 rfl (by kernel_rfl))) ?_; refine re_rd rfl rfl rfl rfl (rd_load rfl rfl (load1_of (by kernel_rfl) (hl.get 0 rfl) rfl)) ?_; refine re_rd rfl rfl rfl rfl (rd_bin rfl rfl rfl rfl) ?_; refine re_rd rfl rfl rfl rfl (rd_pick_f rfl rfl rfl) ?_; refine re_rd rfl rfl rfl rfl (rd_move rfl rfl) ?_; refine re_bool (d := 68) rfl (fun h68 => ?_) (fun h68 => ?_)
                ·
                  refine re_rd rfl rfl rfl rfl (rd_fieldAddr rfl rfl (fieldAddr_at Tryz.underlying54 rfl (by kernel_rfl))) ?_; refine re_rd rfl rfl rfl rfl (rd_fieldAddr rfl rfl (fieldAddr_at Tryz.underlying52 rfl (by kernel_rfl))) ?_; refine re_rd rfl rfl rfl rfl (rd_load rfl rfl (load1_of (by kernel_rfl) (hl.get 0 rfl) rfl)) ?_
                  refine re_callL hl rfl rfl rfl rfl rfl rfl rfl (spec77 _ _ _) ?_; rintro v S1 hk1 rfl hl
                  refine re_rd rfl rfl rfl rfl (rd_pick_t rfl rfl rfl) ?_; refine re_rd rfl rfl rfl rfl (rd_assign rfl rfl) ?_; refine re_end rfl ?_; refine xp_ret rfl ?_
                  refine blk_ret (thn_ret (done_ret (ress_tmp rfl rfl) ⟨hl.keep, congrArg Value.bool (by rcases kind_cases k1 k2 with hk | hk | hk | hk | hk | hk | hk | hk | hk | hk | hk | hk <;> first | (exfalso; simp [hk] at h68 h62 h56 h50 h40 h25 h20 h5; done) | (rw [rng_7 hk]; unfold rangedF; simp only [hk, h68, h62, h56, BLs, Int.reduceBEq]; done) | (rw [rng_7 hk]; unfold rangedF; simp [hk, h68, h62, h56]; done) | (rw [rng_7 hk]; unfold rangedF; simp only [h68, h62, h56]; simp [hk]; done) | (rw [rng_7 hk]; unfold rangedF; simp only [bne, hk, h68, h62, h56, BLs, Int.reduceBEq]; done))⟩))
                ·
                  iterate 4 refine re_pass rfl rfl rfl rfl ?_
                  refine re_rd rfl rfl rfl rfl (rd_pick_f rfl rfl rfl) ?_; refine re_rd rfl rfl rfl rfl (rd_assign rfl rfl) ?_; refine re_end rfl ?_; refine xp_ret rfl ?_
                  refine blk_ret (thn_ret (done_ret (ress_tmp rfl rfl) ⟨hl.keep, congrArg Value.bool (by rcases kind_cases k1 k2 with hk | hk | hk | hk | hk | hk | hk | hk | hk | hk | hk | hk <;> first | (exfalso; simp [hk] at h68 h62 h56 h50 h40 h25 h20 h5; done) | (rw [rng_7 hk]; unfold rangedF; simp only [hk, h68, h62, h56, BLs, Int.reduceBEq]; done) | (rw [rng_7 hk]; unfold rangedF; simp [hk, h68, h62, h56]; done) | (rw [rng_7 hk]; unfold rangedF; simp only [h68, h62, h56]; simp [hk]; done) | (rw [rng_7 hk]; unfold rangedF; simp only [bne, hk, h68, h62, h56, BLs, Int.reduceBEq]; done))⟩))
          ·
            refine xp_seq rfl ?_; refine xp_region rfl (by kernel_rfl) ?_; refine re_rd rfl rfl rfl rfl (rd_bin rfl rfl rfl rfl) ?_; refine re_rd rfl rfl rfl rfl (rd_assign rfl rfl) ?_; refine re_end rfl ?_; refine xp_cond rfl rfl (fun h74 => ?_) (fun h74 => ?_)
            ·
              refine xp_seq rfl ?_; refine xp_region rfl (by kernel_rfl) ?_; refine re_rd rfl rfl rfl rfl (rd_fieldAddr rfl rfl (fieldAddr_at Tryz.underlying54 rfl (by kernel_rfl))) ?_; refine re_rd rfl rfl rfl rfl (rd_load rfl rfl (load1_of (by kernel_rfl) (hl.get 0 rfl) rfl)) ?_
              refine re_callL hl rfl rfl rfl rfl rfl rfl rfl (spec77 _ _ _) ?_; rintro v S1 hk1 rfl hl
              refine re_rd rfl rfl rfl rfl (rd_assign rfl rfl) ?_; refine re_end rfl ?_; refine xp_ret rfl ?_
              refine blk_ret (thn_ret (done_ret (ress_tmp rfl rfl) ⟨hl.keep, congrArg Value.bool (by rcases kind_cases k1 k2 with hk | hk | hk | hk | hk | hk | hk | hk | hk | hk | hk | hk <;> first | (exfalso; simp [hk] at h74 h50 h40 h25 h20 h5; done) | (rw [rng_8 hk]; unfold rangedF; simp only [hk, hk, BLs, Int.reduceBEq]; done) | (rw [rng_8 hk]; unfold rangedF; simp [hk, hk]; done) | (rw [rng_8 hk]; unfold rangedF; simp only [hk]; simp [hk]; done))⟩))
            ·
              refine xp_seq rfl ?_; refine xp_region rfl (by kernel_rfl) ?_; refine re_rd rfl rfl rfl rfl (rd_bin rfl rfl rfl rfl) ?_; refine re_rd rfl rfl rfl rfl (rd_assign rfl rfl) ?_; refine re_end rfl ?_; refine xp_cond rfl rfl (fun h79 => ?_) (fun h79 => ?_)
              ·
                refine xp_seq rfl ?_; refine xp_region rfl (by kernel_rfl) ?_; refine re_rd rfl rfl rfl rfl (rd_fieldAddr rfl rfl (fieldAddr_at Tryz.underlying54 rfl (by kernel_rfl))) ?_; refine re_rd rfl rfl rfl rfl (rd_load rfl rfl (load1_of (by kernel_rfl) (hl.get 0 rfl) rfl)) ?_
                refine re_callL hl rfl rfl rfl rfl rfl rfl rfl (spec77 _ _ _) ?_; rintro v S1 hk1 rfl hl
                refine re_rd rfl rfl rfl rfl (rd_assign rfl rfl) ?_; refine re_end rfl ?_; refine xp_ret rfl ?_
                refine blk_ret (thn_ret (done_ret (ress_tmp rfl rfl) ⟨hl.keep, congrArg Value.bool (by rcases kind_cases k1 k2 with hk | hk | hk | hk | hk | hk | hk | hk | hk | hk | hk | hk <;> first | (exfalso; simp [hk] at h79 h74 h50 h40 h25 h20 h5; done) | (rw [rng_10 hk]; unfold rangedF; simp only [hk, hk, BLs, Int.reduceBEq]; done) | (rw [rng_10 hk]; unfold rangedF; simp [hk, hk]; done) | (rw [rng_10 hk]; unfold rangedF; simp only [hk]; simp [hk]; done))⟩))
              ·
                refine xp_skip rfl ?_; refine xp_seq rfl ?_; refine xp_region rfl (by kernel_rfl) ?_; refine re_rd rfl rfl rfl rfl (rd_assign rfl rfl) ?_; refine re_end rfl ?_; refine xp_ret rfl ?_
                refine done_ret (ress_tmp rfl rfl) ⟨hl.keep, congrArg Value.bool (by rcases kind_cases k1 k2 with hk | hk | hk | hk | hk | hk | hk | hk | hk | hk | hk | hk <;> first | (exfalso; simp [hk] at h79 h74 h50 h40 h25 h20 h5; done) | (rw [rng_3 hk]; unfold rangedF; simp only [hk, hk, BLs, Int.reduceBEq]; done) | (rw [rng_3 hk]; unfold rangedF; simp [hk, hk]; done) | (rw [rng_3 hk]; unfold rangedF; simp only [hk]; simp [hk]; done) | (rw [rng_5 hk]; unfold rangedF; simp only [hk, hk, BLs, Int.reduceBEq]; done) | (rw [rng_5 hk]; unfold rangedF; simp [hk, hk]; done) | (rw [rng_5 hk]; unfold rangedF; simp only [hk]; simp [hk]; done) | (rw [rng_9 hk]; unfold rangedF; simp only [hk, hk, BLs, Int.reduceBEq]; done) | (rw [rng_9 hk]; unfold rangedF; simp [hk, hk]; done) | (rw [rng_9 hk]; unfold rangedF; simp only [hk]; simp [hk]; done) | (rw [rng_11 hk]; unfold rangedF; simp only [hk, hk, BLs, Int.reduceBEq]; done) | (rw [rng_11 hk]; unfold rangedF; simp [hk, hk]; done) | (rw [rng_11 hk]; unfold rangedF; simp only [hk]; simp [hk]; done) | (rw [rng_12 hk]; unfold rangedF; simp only [hk, hk, BLs, Int.reduceBEq]; done) | (rw [rng_12 hk]; unfold rangedF; simp [hk, hk]; done) | (rw [rng_12 hk]; unfold rangedF; simp only [hk]; simp [hk]; done))⟩

end Go.Proofs.YtgnhcamhcnkbfaaGreatDoor

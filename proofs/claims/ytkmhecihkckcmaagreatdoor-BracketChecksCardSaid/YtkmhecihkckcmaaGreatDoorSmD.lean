/-
  Brackets: one, compared numbers, before. Brackets: compare. The kit: same numbers, same brackets. The kit: own part, same part. The reference: Ligatures. slices.Clone once more. The reference: whole. The reference: Made. Expanded lists, the plain law. Sections, the plain law. Rows of the call's own.
-/
import Derived.Test.YtkmhecihkckcmaaGreatDoorSmC
import Derived.Test.YtkmhecihkckcmaaGreatDoorSy2

namespace Go.Proofs.YtkmhecihkckcmaaGreatDoor
open Go.Cm Go
set_option maxRecDepth 100000
variable {S : St}
noncomputable def c35 : Code := Tryz.f35.body.getD .skip
theorem spec35 (s : Sg) : CC Tryz.prog KK 35 [s.v] S (fun v S' => Keep S S' ∧ v = .bool (noteB s)) := by
 refine cc_enter (c := c35) (n := 16) Tryz.func35 rfl rfl rfl (by kernel_rfl) rfl rfl ?_
 have hl := Hold.start S
 refine xs (by kernel_rfl) ?_; refine re_boxL hl rfl rfl rfl rfl rfl rfl ?_; intro B1 S1 hl; refine rm rfl ?_; refine re_end rfl ?_; refine xe_sub (L' := [(1, ptrTo B1 0)]) ⟨rfl, trivial⟩ ?_; refine xp_seq rfl (xe_toE hl 2 (.bool (((s.kind == 1) || (s.kind == 2)) || (s.kind == 4))) ?_ rfl ?_)
 ·
  refine xg (by kernel_rfl) ?_; refine rr rfl (rd_fieldAddr rfl rfl (fa Tryz.underlying63 az63 rfl)) ?_; refine rr rfl (rl hl 0 rfl rfl (by kernel_rfl) rfl rfl) ?_; refine rr rfl (rd_bin rfl rfl rfl rfl) ?_; refine rm rfl ?_; refine re_bool (d := 6) rfl (fun h6 => ?_) (fun h6 => ?_)
  ·
   iterate 3 refine rz rfl ?_
   iterate 2 refine rm rfl ?_
   iterate 3 refine rz rfl ?_
   iterate 2 refine rm rfl ?_
   refine re_end rfl ?_
   exact ⟨rfl, bl (by first | (simp [h6]; done) | (simp only [h6, BLs])), by repeat (first | exact subL_refl _ | refine subL_skip rfl ?_), hl⟩
  ·
   refine rr rfl (rd_fieldAddr rfl rfl (fa Tryz.underlying63 az63 rfl)) ?_; refine rr rfl (rl hl 0 rfl rfl (by kernel_rfl) rfl rfl) ?_; refine rr rfl (rd_bin rfl rfl rfl rfl) ?_; iterate 2 refine rm rfl ?_
   refine re_bool (d := 11) rfl (fun h11 => ?_) (fun h11 => ?_)
   ·
    iterate 3 refine rz rfl ?_
    iterate 2 refine rm rfl ?_
    refine re_end rfl ?_
    exact ⟨rfl, bl (by first | (simp [h11, h6]; done) | (simp only [h11, h6, BLs])), by repeat (first | exact subL_refl _ | refine subL_skip rfl ?_), hl⟩
   ·
    refine rr rfl (rd_fieldAddr rfl rfl (fa Tryz.underlying63 az63 rfl)) ?_; refine rr rfl (rl hl 0 rfl rfl (by kernel_rfl) rfl rfl) ?_; refine rr rfl (rd_bin rfl rfl rfl rfl) ?_; iterate 2 refine rm rfl ?_
    refine re_end rfl ?_
    exact ⟨rfl, bl (by first | (simp [h11, h6]; done) | (simp only [h11, h6, BLs])), by repeat (first | exact subL_refl _ | refine subL_skip rfl ?_), hl⟩
 intro S1 hl
 refine xp_ret rfl ?_
 refine done_ret (ress_tmp rfl rfl) ⟨hl.keep, rfl⟩
noncomputable def c24 : Code := Tryz.f24.body.getD .skip
theorem spec24 (s : Sg) : CC Tryz.prog KK 24 [s.v] S (fun v S' => Keep S S' ∧ v = .bool (noteB s)) := by
 refine cc_enter (c := c24) (n := 16) Tryz.func24 rfl rfl rfl (by kernel_rfl) rfl rfl ?_
 have hl := Hold.start S
 refine xs (by kernel_rfl) ?_; refine re_boxL hl rfl rfl rfl rfl rfl rfl ?_; intro B1 S1 hl; refine rm rfl ?_; refine re_end rfl ?_; refine xe_sub (L' := [(1, ptrTo B1 0)]) ⟨rfl, trivial⟩ ?_; refine xp_seq rfl (xe_toE hl 2 (.bool (((s.kind == 1) || (s.kind == 2)) || (s.kind == 4))) ?_ rfl ?_)
 ·
  refine xg (by kernel_rfl) ?_; refine rr rfl (rd_fieldAddr rfl rfl (fa Tryz.underlying63 az63 rfl)) ?_; refine rr rfl (rl hl 0 rfl rfl (by kernel_rfl) rfl rfl) ?_; refine rr rfl (rd_bin rfl rfl rfl rfl) ?_; refine rm rfl ?_; refine re_bool (d := 6) rfl (fun h6 => ?_) (fun h6 => ?_)
  ·
   iterate 3 refine rz rfl ?_
   iterate 2 refine rm rfl ?_
   iterate 3 refine rz rfl ?_
   iterate 2 refine rm rfl ?_
   refine re_end rfl ?_
   exact ⟨rfl, bl (by first | (simp [h6]; done) | (simp only [h6, BLs])), by repeat (first | exact subL_refl _ | refine subL_skip rfl ?_), hl⟩
  ·
   refine rr rfl (rd_fieldAddr rfl rfl (fa Tryz.underlying63 az63 rfl)) ?_; refine rr rfl (rl hl 0 rfl rfl (by kernel_rfl) rfl rfl) ?_; refine rr rfl (rd_bin rfl rfl rfl rfl) ?_; iterate 2 refine rm rfl ?_
   refine re_bool (d := 11) rfl (fun h11 => ?_) (fun h11 => ?_)
   ·
    iterate 3 refine rz rfl ?_
    iterate 2 refine rm rfl ?_
    refine re_end rfl ?_
    exact ⟨rfl, bl (by first | (simp [h11, h6]; done) | (simp only [h11, h6, BLs])), by repeat (first | exact subL_refl _ | refine subL_skip rfl ?_), hl⟩
   ·
    refine rr rfl (rd_fieldAddr rfl rfl (fa Tryz.underlying63 az63 rfl)) ?_; refine rr rfl (rl hl 0 rfl rfl (by kernel_rfl) rfl rfl) ?_; refine rr rfl (rd_bin rfl rfl rfl rfl) ?_; iterate 2 refine rm rfl ?_
    refine re_end rfl ?_
    exact ⟨rfl, bl (by first | (simp [h11, h6]; done) | (simp only [h11, h6, BLs])), by repeat (first | exact subL_refl _ | refine subL_skip rfl ?_), hl⟩
 intro S1 hl
 refine xp_ret rfl ?_
 refine done_ret (ress_tmp rfl rfl) ⟨hl.keep, rfl⟩
noncomputable def c21 : Code := Tryz.f21.body.getD .skip
theorem spec21 (a : Option Addr) (cap : Nat) (C : List Sg) (x : Bk) (hn : C.length ≤ 1000) (hv : Signs S (.slice a C.length cap) C) : CC Tryz.prog KK 21 [.slice a C.length cap, x.v] S (fun v S' => Keep S S' ∧ v = .int .i64 (bkE C x)) := by
 refine cc_enter (c := c21) (n := 61) Tryz.func21 rfl rfl rfl (by kernel_rfl) rfl rfl ?_
 have hl := Hold.start S
 refine xs (by kernel_rfl) ?_; refine re_boxL hl rfl rfl rfl rfl rfl rfl ?_; intro B3 S3 hl; refine rm rfl ?_; refine re_end rfl ?_; refine xp_seq rfl ?_; refine xp_block rfl ?_; refine xp_seq rfl (xe_toE hl 5 (.bool (decide (x.kind < 1) || decide (x.kind > 3))) ?_ rfl ?_)
 ·
  refine xg (by kernel_rfl) ?_; refine rr rfl (rd_fieldAddr rfl rfl (fa Tryz.underlying46 az46 rfl)) ?_; refine rr rfl (rl hl 0 rfl rfl (by kernel_rfl) rfl rfl) ?_; refine rr rfl (rd_bin rfl rfl rfl rfl) ?_; refine rm rfl ?_; refine re_bool (d := 9) rfl (fun h9 => ?_) (fun h9 => ?_)
  ·
   iterate 3 refine rz rfl ?_
   iterate 2 refine rm rfl ?_
   refine re_end rfl ?_
   exact ⟨rfl, bl (by first | (simp [h9]; done) | (simp only [h9, BLs])), by repeat (first | exact subL_refl _ | refine subL_skip rfl ?_), hl⟩
  ·
   refine rr rfl (rd_fieldAddr rfl rfl (fa Tryz.underlying46 az46 rfl)) ?_; refine rr rfl (rl hl 0 rfl rfl (by kernel_rfl) rfl rfl) ?_; refine rr rfl (rd_bin rfl rfl rfl rfl) ?_; iterate 2 refine rm rfl ?_
   refine re_end rfl ?_
   exact ⟨rfl, bl (by first | (simp [h9]; done) | (simp only [h9, BLs])), by repeat (first | exact subL_refl _ | refine subL_skip rfl ?_), hl⟩
 intro S1 hl
 refine xp_cond rfl rfl (fun h5 => ?_) (fun h5 => ?_)
 ·
  refine xs (by kernel_rfl) ?_; refine rm rfl ?_; refine re_end rfl ?_; refine xp_ret rfl ?_
  refine blk_ret (thn_ret (done_ret (ress_tmp rfl rfl) ⟨hl.keep, congrArg (Value.int .i64) (by unfold bkE; rw [h5]; rfl)⟩))
 ·
  refine xp_seq rfl (xe_toE hl 14 (.bool (decide (x.frm < 0) || decide (x.frm ≥ C.length) || decide (x.upto < 0) || decide (x.upto ≥ C.length))) ?_ rfl ?_)
  ·
   refine xg (by kernel_rfl) ?_; refine rr rfl (rd_fieldAddr rfl rfl (fa Tryz.underlying46 az46 rfl)) ?_; refine rr rfl (rl hl 0 rfl rfl (by kernel_rfl) rfl rfl) ?_; refine rr rfl (rd_bin rfl rfl rfl rfl) ?_; refine rm rfl ?_; refine re_bool (d := 18) rfl (fun h18 => ?_) (fun h18 => ?_)
   ·
    iterate 5 refine rz rfl ?_
    iterate 2 refine rm rfl ?_
    iterate 3 refine rz rfl ?_
    iterate 2 refine rm rfl ?_
    iterate 5 refine rz rfl ?_
    iterate 2 refine rm rfl ?_
    refine re_end rfl ?_
    exact ⟨rfl, bl (by first | (simp [h18]; done) | (simp only [h18, BLs])), by repeat (first | exact subL_refl _ | refine subL_skip rfl ?_), hl⟩
   ·
    refine rr rfl (rd_fieldAddr rfl rfl (fa Tryz.underlying46 az46 rfl)) ?_; refine rr rfl (rl hl 0 rfl rfl (by kernel_rfl) rfl rfl) ?_; refine rm rfl ?_; refine rr rfl (rd_len rfl rfl (len_slice Tryz.underlying22)) ?_; refine rr rfl (rd_bin rfl rfl rfl rfl) ?_; iterate 2 refine rm rfl ?_
    refine re_bool (d := 25) rfl (fun h25 => ?_) (fun h25 => ?_)
    ·
     iterate 3 refine rz rfl ?_
     iterate 2 refine rm rfl ?_
     iterate 5 refine rz rfl ?_
     iterate 2 refine rm rfl ?_
     refine re_end rfl ?_
     exact ⟨rfl, bl (by first | (simp [h25, h18]; done) | (simp only [h25, h18, BLs])), by repeat (first | exact subL_refl _ | refine subL_skip rfl ?_), hl⟩
    ·
     refine rr rfl (rd_fieldAddr rfl rfl (fa Tryz.underlying46 az46 rfl)) ?_; refine rr rfl (rl hl 0 rfl rfl (by kernel_rfl) rfl rfl) ?_; refine rr rfl (rd_bin rfl rfl rfl rfl) ?_; iterate 2 refine rm rfl ?_
     refine re_bool (d := 30) rfl (fun h30 => ?_) (fun h30 => ?_)
     ·
      iterate 5 refine rz rfl ?_
      iterate 2 refine rm rfl ?_
      refine re_end rfl ?_
      exact ⟨rfl, bl (by first | (simp [h30, h25, h18]; done) | (simp only [h30, h25, h18, BLs])), by repeat (first | exact subL_refl _ | refine subL_skip rfl ?_), hl⟩
     ·
      refine rr rfl (rd_fieldAddr rfl rfl (fa Tryz.underlying46 az46 rfl)) ?_; refine rr rfl (rl hl 0 rfl rfl (by kernel_rfl) rfl rfl) ?_; refine rm rfl ?_; refine rr rfl (rd_len rfl rfl (len_slice Tryz.underlying22)) ?_; refine rr rfl (rd_bin rfl rfl rfl rfl) ?_; iterate 2 refine rm rfl ?_
      refine re_end rfl ?_
      exact ⟨rfl, bl (by first | (simp [h30, h25, h18]; done) | (simp only [h30, h25, h18, BLs])), by repeat (first | exact subL_refl _ | refine subL_skip rfl ?_), hl⟩
  intro S1 hl
  refine xp_cond rfl rfl (fun h14 => ?_) (fun h14 => ?_)
  ·
   refine xs (by kernel_rfl) ?_; refine rm rfl ?_; refine re_end rfl ?_; refine xp_ret rfl ?_
   refine blk_ret (thn_ret (done_ret (ress_tmp rfl rfl) ⟨hl.keep, congrArg (Value.int .i64) (by unfold bkE; rw [h5, h14]; rfl)⟩))
  ·
   obtain ⟨b, o, cs, rfl, hrow, hall⟩ := hv.row (by simp at h14; omega)
   refine xp_seq rfl (xe_toE hl 37 (.bool (!noteB (sgI C x.frm) || !noteB (sgI C x.upto) || decide (x.frm > x.upto))) ?_ rfl ?_)
   ·
    refine xg (by kernel_rfl) ?_; refine rm rfl ?_; refine rr rfl (rd_fieldAddr rfl rfl (fa Tryz.underlying46 az46 rfl)) ?_; refine rr rfl (rl hl 0 rfl rfl (by kernel_rfl) rfl rfl) ?_; refine rr rfl (rd_indexAddr rfl rfl rfl (indexAddr_slice (z := 17) Tryz.underlying22 (by kernel_rfl) ⟨by first | omega | (simp at *; omega), by first | omega | (simp at *; omega)⟩)) ?_; refine rr rfl (rd_load rfl rfl (loadN_row (z := 17) (by kernel_rfl) (by kernel_rfl) (row_move (hl.since 0 rfl) hrow) (hall _ (by first | omega | (simp at *; omega)) (by first | omega | (simp at *; omega))))) ?_
    refine re_callL hl rfl rfl rfl rfl rfl rfl rfl (spec35 (sgI C x.frm)) ?_; rintro v S1 hk1 rfl hl
    refine rr rfl (rd_un rfl rfl rfl) ?_; refine rm rfl ?_; refine re_bool (d := 45) rfl (fun h45 => ?_) (fun h45 => ?_)
    ·
     iterate 7 refine rz rfl ?_
     iterate 2 refine rm rfl ?_
     iterate 5 refine rz rfl ?_
     iterate 2 refine rm rfl ?_
     refine re_end rfl ?_
     exact ⟨rfl, bl (by first | (simp [h45]; done) | (simp only [h45, BLs])), by repeat (first | exact subL_refl _ | refine subL_skip rfl ?_), hl⟩
    ·
     refine rm rfl ?_; refine rr rfl (rd_fieldAddr rfl rfl (fa Tryz.underlying46 az46 rfl)) ?_; refine rr rfl (rl hl 0 rfl rfl (by kernel_rfl) rfl rfl) ?_; refine rr rfl (rd_indexAddr rfl rfl rfl (indexAddr_slice (z := 17) Tryz.underlying22 (by kernel_rfl) ⟨by first | omega | (simp at *; omega), by first | omega | (simp at *; omega)⟩)) ?_; refine rr rfl (rd_load rfl rfl (loadN_row (z := 17) (by kernel_rfl) (by kernel_rfl) (row_move (hl.since 0 rfl) hrow) (hall _ (by first | omega | (simp at *; omega)) (by first | omega | (simp at *; omega))))) ?_
     refine re_callL hl rfl rfl rfl rfl rfl rfl rfl (spec35 (sgI C x.upto)) ?_; rintro v S1 hk1 rfl hl
     refine rr rfl (rd_un rfl rfl rfl) ?_; iterate 2 refine rm rfl ?_
     refine re_bool (d := 54) rfl (fun h54 => ?_) (fun h54 => ?_)
     ·
      iterate 5 refine rz rfl ?_
      iterate 2 refine rm rfl ?_
      refine re_end rfl ?_
      exact ⟨rfl, bl (by first | (simp [h54, h45]; done) | (simp only [h54, h45, BLs])), by repeat (first | exact subL_refl _ | refine subL_skip rfl ?_), hl⟩
     ·
      refine rr rfl (rd_fieldAddr rfl rfl (fa Tryz.underlying46 az46 rfl)) ?_; refine rr rfl (rl hl 0 rfl rfl (by kernel_rfl) rfl rfl) ?_; refine rr rfl (rd_fieldAddr rfl rfl (fa Tryz.underlying46 az46 rfl)) ?_; refine rr rfl (rl hl 0 rfl rfl (by kernel_rfl) rfl rfl) ?_; refine rr rfl (rd_bin rfl rfl rfl rfl) ?_; iterate 2 refine rm rfl ?_
      refine re_end rfl ?_
      exact ⟨rfl, bl (by first | (simp [h54, h45]; done) | (simp only [h54, h45, BLs])), by repeat (first | exact subL_refl _ | refine subL_skip rfl ?_), hl⟩
   intro S1 hl
   refine xp_cond rfl rfl (fun h37 => ?_) (fun h37 => ?_)
   ·
    refine xs (by kernel_rfl) ?_; refine rm rfl ?_; refine re_end rfl ?_; refine xp_ret rfl ?_
    refine blk_ret (thn_ret (done_ret (ress_tmp rfl rfl) ⟨hl.keep, congrArg (Value.int .i64) (by unfold bkE; rw [h5, h14, h37]; rfl)⟩))
   ·
    refine xp_skip rfl ?_; refine xs (by kernel_rfl) ?_; refine rm rfl ?_; refine re_end rfl ?_; refine xp_ret rfl ?_
    refine done_ret (ress_tmp rfl rfl) ⟨hl.keep, congrArg (Value.int .i64) (by unfold bkE; rw [h5, h14, h37]; rfl)⟩
noncomputable def c48 : Code := Tryz.f48.body.getD .skip
theorem spec48 (k : Int) : CC Tryz.prog KK 48 [.int .i64 k] S (fun v S' => Keep S S' ∧ v = .bool false) := by
 refine cc_enter (c := c48) (n := 6) Tryz.func48 rfl rfl rfl (by kernel_rfl) rfl rfl ?_
 have hl := Hold.start S
 refine xs (by kernel_rfl) ?_; refine rm rfl ?_; refine re_end rfl ?_; refine xs (by kernel_rfl) ?_; iterate 2 refine rm rfl ?_
 refine rr rfl (rd_bin rfl rfl rfl rfl) ?_; refine rm rfl ?_; refine re_end rfl ?_; refine xp_ret rfl ?_
 refine done_ret (ress_tmp rfl rfl) ⟨hl.keep, congrArg Value.bool (by simp)⟩
noncomputable def c37 : Code := Tryz.f37.body.getD .skip
theorem spec37 (a b : Int) : CC Tryz.prog KK 37 [.int .i64 a, .int .i64 b] S (fun v S' => Keep S S' ∧ v = .int .i64 (cmpI a b)) := by
 refine cc_enter (c := c37) (n := 20) Tryz.func37 rfl rfl rfl (by kernel_rfl) rfl rfl ?_
 have hl := Hold.start S
 refine xs (by kernel_rfl) ?_; refine rm rfl ?_; refine re_end rfl ?_; refine xs (by kernel_rfl) ?_; refine rm rfl ?_
 refine re_callL hl rfl rfl rfl rfl rfl rfl rfl (spec48 _) ?_; rintro v S1 hk1 rfl hl
 refine rm rfl ?_; refine re_end rfl ?_; refine xs (by kernel_rfl) ?_; refine rm rfl ?_
 refine re_callL hl rfl rfl rfl rfl rfl rfl rfl (spec48 _) ?_; rintro v S1 hk1 rfl hl
 refine rm rfl ?_; refine re_end rfl ?_; refine xp_seq rfl ?_; refine xs (by kernel_rfl) ?_; refine rm rfl ?_; refine re_end rfl ?_; refine xp_cond rfl rfl (fun h11 => ?_) (fun h11 => ?_)
 ·
  refine xp_seq rfl ?_; refine xs (by kernel_rfl) ?_; refine rm rfl ?_; refine re_end rfl ?_; refine xp_cond rfl rfl (fun h12 => ?_) (fun h12 => ?_)
  ·
   refine xs (by kernel_rfl) ?_; refine rm rfl ?_; refine re_end rfl ?_; refine xp_ret rfl ?_
   refine thn_ret (thn_ret (done_ret (ress_tmp rfl rfl) ⟨hl.keep, by cases h11⟩))
  ·
   refine xp_skip rfl ?_; refine xs (by kernel_rfl) ?_; refine rm rfl ?_; refine re_end rfl ?_; refine xp_ret rfl ?_
   refine thn_ret (done_ret (ress_tmp rfl rfl) ⟨hl.keep, by cases h11⟩)
 ·
  refine xp_skip rfl ?_; refine xp_seq rfl ?_; refine xs (by kernel_rfl) ?_; refine rm rfl ?_; refine re_end rfl ?_; refine xp_cond rfl rfl (fun h13 => ?_) (fun h13 => ?_)
  ·
   refine xs (by kernel_rfl) ?_; refine rm rfl ?_; refine re_end rfl ?_; refine xp_ret rfl ?_
   refine thn_ret (done_ret (ress_tmp rfl rfl) ⟨hl.keep, by cases h13⟩)
  ·
   refine xp_skip rfl ?_; refine xp_seq rfl ?_; refine xs (by kernel_rfl) ?_; iterate 2 refine rm rfl ?_
   refine rr rfl (rd_bin rfl rfl rfl rfl) ?_; refine re_end rfl ?_; refine xp_cond rfl rfl (fun h16 => ?_) (fun h16 => ?_)
   ·
    refine xs (by kernel_rfl) ?_; refine rm rfl ?_; refine re_end rfl ?_; refine xp_ret rfl ?_
    refine thn_ret (done_ret (ress_tmp rfl rfl) ⟨hl.keep, congrArg (Value.int .i64) (by unfold cmpI; rw [h16]; rfl)⟩)
   ·
    refine xp_skip rfl ?_; refine xp_seq rfl ?_; refine xs (by kernel_rfl) ?_; iterate 2 refine rm rfl ?_
    refine rr rfl (rd_bin rfl rfl rfl rfl) ?_; refine re_end rfl ?_; refine xp_cond rfl rfl (fun h19 => ?_) (fun h19 => ?_)
    ·
     refine xs (by kernel_rfl) ?_; refine rm rfl ?_; refine re_end rfl ?_; refine xp_ret rfl ?_
     refine thn_ret (done_ret (ress_tmp rfl rfl) ⟨hl.keep, congrArg (Value.int .i64) (by unfold cmpI; rw [h16, h19]; rfl)⟩)
    ·
     refine xp_skip rfl ?_; refine xs (by kernel_rfl) ?_; refine rm rfl ?_; refine re_end rfl ?_; refine xp_ret rfl ?_
     refine done_ret (ress_tmp rfl rfl) ⟨hl.keep, congrArg (Value.int .i64) (by unfold cmpI; rw [h16, h19]; rfl)⟩
noncomputable def c36 : Code := Tryz.f36.body.getD .skip
theorem spec36 (a : Option Addr) (cap : Nat) (l : List Int) (hn : l.length ≤ 1000) (hv : Ints S (.slice a l.length cap) l) : CC Tryz.prog KK 36 [.slice a l.length cap] S (fun v S' => Keep S S' ∧ v = .int .i64 (orI l)) := by
 refine cc_enter (c := c36) (n := 18) Tryz.func36 rfl rfl rfl (by kernel_rfl) rfl rfl ?_
 have hl := Hold.start S
 refine xs (by kernel_rfl) ?_; refine rm rfl ?_; refine re_end rfl ?_; refine xs (by kernel_rfl) ?_; refine rm rfl ?_; refine re_end rfl ?_; refine xp_seq rfl ?_; refine xs (by kernel_rfl) ?_; refine rm rfl ?_; refine rr rfl (rd_len rfl rfl (len_slice Tryz.underlying31)) ?_; refine rm rfl ?_; refine re_end rfl ?_; refine xp_block rfl ?_
 -- LOOP
 refine xe_sub (L' := [(8, .int .i64 0), (7, .int .i64 l.length), (6, .slice a l.length cap), (3, .int .i64 0)]) ⟨rfl, rfl, rfl, rfl, trivial⟩ ?_
 refine xp_loop rfl (fun m Le S' => ∃ i : Nat, i ≤ l.length ∧ m = l.length - i ∧ SubE [(8, .int .i64 (i : Int)), (7, .int .i64 l.length), (6, .slice a l.length cap), (3, .int .i64 0)] Le ∧ orI (l.drop i) = orI l ∧ HoldG S [S] S' [] []) ?_ (m := l.length) ⟨0, by omega, by omega, ⟨rfl, rfl, rfl, rfl, trivial⟩, rfl, hl⟩
 clear hl; rintro m Le S' ⟨i, hi, rfl, hsub, hpr, hl⟩; refine xe_sub hsub ?_
 refine xs (by kernel_rfl) ?_; refine rr rfl (rd_bin rfl rfl rfl rfl) ?_; refine re_end rfl ?_; refine xp_seq rfl ?_; refine xp_cond rfl rfl (fun h9 => ?_) (fun h9 => ?_)
 ·
  have hlt : i < l.length := by have := of_decide_eq_true h9; omega
  obtain ⟨x, hx⟩ := nth_some hlt
  obtain ⟨b, o, cs, rfl, _, hrow, htk⟩ := hv.elem hx
  refine xp_skip rfl ?_; refine xp_seq rfl ?_; refine xp_block rfl ?_; refine xs (by kernel_rfl) ?_; refine rr rfl (rd_indexAddr rfl rfl rfl (indexAddr_slice (z := 1) Tryz.underlying31 (by kernel_rfl) ⟨by first | omega | (simp at *; omega), by first | omega | (simp at *; omega)⟩)) ?_; refine rr rfl (rd_load rfl rfl (load1_row (by kernel_rfl) (row_move (hl.since 0 rfl) hrow) (tk_nth (v := iv x) (j := 0) htk rfl))) ?_; refine rm rfl ?_; refine re_end rfl ?_; refine xs (by kernel_rfl) ?_; iterate 2 refine rm rfl ?_
  refine rr rfl (rd_bin rfl rfl rfl rfl) ?_; refine re_end rfl ?_; refine xp_cond rfl rfl (fun h14 => ?_) (fun h14 => ?_)
  ·
   refine xs (by kernel_rfl) ?_; iterate 2 refine rm rfl ?_
   refine re_end rfl ?_; refine xp_ret rfl ?_
   refine blk_ret (thn_ret (round_ret (blk_ret (thn_ret (done_ret (ress_tmp rfl rfl) ⟨hl.keep, congrArg (Value.int .i64) (by rw [← hpr, drop_nth' hx, orI, h14]; rfl)⟩)))))
  ·
   refine xp_skip rfl ?_; refine xg (by kernel_rfl) ?_; refine rr rfl (rd_bin rfl rfl rfl (i6 (by omega))) ?_; refine rm rfl ?_; refine re_end rfl ?_
   refine ⟨l.length - (i + 1), by omega, i + 1, by omega, rfl, ⟨rfl, rfl, rfl, rfl, trivial⟩, ?_, hl⟩
   rw [← hpr, drop_nth' hx, orI, h14]; rfl
 ·
  refine xp_exit rfl ?_; refine xs (by kernel_rfl) ?_; iterate 2 refine rm rfl ?_
  refine re_end rfl ?_; refine xp_ret rfl ?_
  refine done_ret (ress_tmp rfl rfl) ⟨hl.keep, congrArg (Value.int .i64) (by rw [← hpr, List.drop_eq_nil_of_le (by have := of_decide_eq_false h9; omega)]; rfl)⟩
noncomputable def c25 : Code := Tryz.f25.body.getD .skip
theorem spec25 (x y : Bk) : CC Tryz.prog KK 25 [x.v, y.v] S (fun v S' => Keep S S' ∧ v = .bool (bkBefore x y)) := by
 refine cc_enter (c := c25) (n := 32) Tryz.func25 rfl rfl rfl (by kernel_rfl) rfl rfl ?_
 have hl := Hold.start S
 refine xs (by kernel_rfl) ?_; refine re_boxL hl rfl rfl rfl rfl rfl rfl ?_; intro B2 S2 hl; refine re_boxL hl rfl rfl rfl rfl rfl rfl ?_; intro B3 S3 hl; refine rm rfl ?_; refine re_end rfl ?_; refine xp_seq rfl ?_; refine xp_block rfl ?_; refine xs (by kernel_rfl) ?_; refine rr rfl (rd_fieldAddr rfl rfl (fa Tryz.underlying46 az46 rfl)) ?_; refine rr rfl (rl hl 1 rfl rfl (by kernel_rfl) rfl rfl) ?_; refine rr rfl (rd_fieldAddr rfl rfl (fa Tryz.underlying46 az46 rfl)) ?_; refine rr rfl (rl hl 0 rfl rfl (by kernel_rfl) rfl rfl) ?_; refine rr rfl (rd_bin rfl rfl rfl rfl) ?_; refine rm rfl ?_
 refine re_end rfl ?_; refine xp_cond rfl rfl (fun h5 => ?_) (fun h5 => ?_)
 ·
  refine xs (by kernel_rfl) ?_; refine rr rfl (rd_fieldAddr rfl rfl (fa Tryz.underlying46 az46 rfl)) ?_; refine rr rfl (rl hl 1 rfl rfl (by kernel_rfl) rfl rfl) ?_; refine rr rfl (rd_fieldAddr rfl rfl (fa Tryz.underlying46 az46 rfl)) ?_; refine rr rfl (rl hl 0 rfl rfl (by kernel_rfl) rfl rfl) ?_; refine rr rfl (rd_bin rfl rfl rfl rfl) ?_; refine rm rfl ?_; refine re_end rfl ?_; refine xp_ret rfl ?_
  refine blk_ret (thn_ret (done_ret (ress_tmp rfl rfl) ⟨hl.keep, congrArg Value.bool (by unfold bkBefore; rw [h5]; rfl)⟩))
 ·
  refine xs (by kernel_rfl) ?_; refine rr rfl (rd_fieldAddr rfl rfl (fa Tryz.underlying46 az46 rfl)) ?_; refine rr rfl (rl hl 1 rfl rfl (by kernel_rfl) rfl rfl) ?_; refine rr rfl (rd_fieldAddr rfl rfl (fa Tryz.underlying46 az46 rfl)) ?_; refine rr rfl (rl hl 0 rfl rfl (by kernel_rfl) rfl rfl) ?_; refine rr rfl (rd_bin rfl rfl rfl rfl) ?_; refine rm rfl ?_; refine re_end rfl ?_; refine xp_cond rfl rfl (fun h16 => ?_) (fun h16 => ?_)
  ·
   refine xs (by kernel_rfl) ?_; refine rr rfl (rd_fieldAddr rfl rfl (fa Tryz.underlying46 az46 rfl)) ?_; refine rr rfl (rl hl 1 rfl rfl (by kernel_rfl) rfl rfl) ?_; refine rr rfl (rd_fieldAddr rfl rfl (fa Tryz.underlying46 az46 rfl)) ?_; refine rr rfl (rl hl 0 rfl rfl (by kernel_rfl) rfl rfl) ?_; refine rr rfl (rd_bin rfl rfl rfl rfl) ?_; refine rm rfl ?_; refine re_end rfl ?_; refine xp_ret rfl ?_
   refine blk_ret (thn_ret (done_ret (ress_tmp rfl rfl) ⟨hl.keep, congrArg Value.bool (by unfold bkBefore; rw [h5, h16]; rfl)⟩))
  ·
   refine xp_skip rfl ?_; refine xs (by kernel_rfl) ?_; refine rr rfl (rd_fieldAddr rfl rfl (fa Tryz.underlying46 az46 rfl)) ?_; refine rr rfl (rl hl 1 rfl rfl (by kernel_rfl) rfl rfl) ?_; refine rr rfl (rd_fieldAddr rfl rfl (fa Tryz.underlying46 az46 rfl)) ?_; refine rr rfl (rl hl 0 rfl rfl (by kernel_rfl) rfl rfl) ?_; refine rr rfl (rd_bin rfl rfl rfl rfl) ?_; refine rm rfl ?_; refine re_end rfl ?_; refine xp_ret rfl ?_
   refine done_ret (ress_tmp rfl rfl) ⟨hl.keep, congrArg Value.bool (by unfold bkBefore; rw [h5, h16]; rfl)⟩
end Go.Proofs.YtkmhecihkckcmaaGreatDoor
namespace Go.Proofs.YtkmhecihkckcmaaGreatDoor
open Go.Cm Go
set_option maxRecDepth 100000
variable {S : St}
theorem ints3 {S : St} {B : Nat} {x y z : Int} (h : RowAt S B 3 [iv x, iv y, iv z]) : Ints S (.slice (some ⟨B, 0, none⟩) 3 3) [x, y, z] :=
 .inr ⟨B, 0, 3, _, rfl, Nat.le_refl _, h, fun k v hk => by
  match k with
  | 0 => cases hk; rfl
  | 1 => cases hk; rfl
  | 2 => cases hk; rfl
  | k + 3 => cases k <;> cases hk⟩
noncomputable def c22 : Code := Tryz.f22.body.getD .skip
theorem spec22 (x y : Bk) (hF : Fresh S) : CC Tryz.prog KK 22 [x.v, y.v] S (fun v S' => Keep S S' ∧ v = .int .i64 (bkCmp x y)) := by
 refine cc_enter (c := c22) (n := 22) Tryz.func22 rfl rfl rfl (by kernel_rfl) rfl rfl ?_
 have hl := Hold.start S
 refine xs (by kernel_rfl) ?_; refine re_boxL hl rfl rfl rfl rfl rfl rfl ?_; intro B2 S2 hl; refine re_boxL hl rfl rfl rfl rfl rfl rfl ?_; intro B3 S3 hl; refine rm rfl ?_; refine re_end rfl ?_; refine xp_seq rfl ?_; refine xp_draw (idx := [0, 1, 2, 3, 5, 6, 7, 8, 10, 11, 12, 13, 4, 9, 14, 15, 16, 17]) rfl (by kernel_rfl) (by kernel_rfl) ?_; refine pr rfl (rd_fieldAddr rfl rfl (fa Tryz.underlying54 az54 rfl)) ?_; refine pk rfl (rl hl 1 rfl rfl (by kernel_rfl) rfl rfl) ?_; refine pr rfl (rd_fieldAddr rfl rfl (fa Tryz.underlying54 az54 rfl)) ?_
 refine pk rfl (rl hl 0 rfl rfl (by kernel_rfl) rfl rfl) ?_; refine pr rfl (rd_fieldAddr rfl rfl (fa Tryz.underlying54 az54 rfl)) ?_; refine pk rfl (rl hl 0 rfl rfl (by kernel_rfl) rfl rfl) ?_; refine pr rfl (rd_fieldAddr rfl rfl (fa Tryz.underlying54 az54 rfl)) ?_; refine pk rfl (rl hl 1 rfl rfl (by kernel_rfl) rfl rfl) ?_; refine pr rfl (rd_fieldAddr rfl rfl (fa Tryz.underlying54 az54 rfl)) ?_; refine pk rfl (rl hl 1 rfl rfl (by kernel_rfl) rfl rfl) ?_; refine pr rfl (rd_fieldAddr rfl rfl (fa Tryz.underlying54 az54 rfl)) ?_; refine pk rfl (rl hl 0 rfl rfl (by kernel_rfl) rfl rfl) ?_
 refine rp_callL hl rfl rfl rfl rfl rfl rfl rfl (spec37 _ _) ?_; rintro v S1 hk1 rfl hl; refine ⟨stays_of ((by repeat (first | exact trivial | refine ⟨(by first | exact stays_load (X := True) rfl rfl (load1_of (by kernel_rfl) (hl.get 0 rfl) rfl) (same_atom (atom_int _ _)) rfl trivial | exact stays_load (X := True) rfl rfl (load1_of (by kernel_rfl) (hl.get 1 rfl) rfl) (same_atom (atom_int _ _)) rfl trivial | exact stays_new (X := True) rfl ((hk1.2 B20 hlt20).trans hg20) (sameL_atoms _ _ (by simp) (atoms_cons (atom_int _ _) (atoms_cons (atom_int _ _) (atoms_cons (atom_int _ _) atoms_nil)))) trivial), ?_⟩))), ?_⟩
 refine rp_callL hl rfl rfl rfl rfl rfl rfl rfl (spec37 _ _) ?_; rintro v S1 hk1 rfl hl; refine ⟨stays_of (allE_left ((by repeat (first | exact trivial | refine ⟨(by first | exact stays_load (X := True) rfl rfl (load1_of (by kernel_rfl) (hl.get 0 rfl) rfl) (same_atom (atom_int _ _)) rfl trivial | exact stays_load (X := True) rfl rfl (load1_of (by kernel_rfl) (hl.get 1 rfl) rfl) (same_atom (atom_int _ _)) rfl trivial | exact stays_new (X := True) rfl ((hk1.2 B20 hlt20).trans hg20) (sameL_atoms _ _ (by simp) (atoms_cons (atom_int _ _) (atoms_cons (atom_int _ _) (atoms_cons (atom_int _ _) atoms_nil)))) trivial), ?_⟩)))), ?_⟩
 refine rp_callL hl rfl rfl rfl rfl rfl rfl rfl (spec37 _ _) ?_; rintro v S1 hk1 rfl hl; refine ⟨stays_of (allE_left (allE_left ((by repeat (first | exact trivial | refine ⟨(by first | exact stays_load (X := True) rfl rfl (load1_of (by kernel_rfl) (hl.get 0 rfl) rfl) (same_atom (atom_int _ _)) rfl trivial | exact stays_load (X := True) rfl rfl (load1_of (by kernel_rfl) (hl.get 1 rfl) rfl) (same_atom (atom_int _ _)) rfl trivial | exact stays_new (X := True) rfl ((hk1.2 B20 hlt20).trans hg20) (sameL_atoms _ _ (by simp) (atoms_cons (atom_int _ _) (atoms_cons (atom_int _ _) (atoms_cons (atom_int _ _) atoms_nil)))) trivial), ?_⟩))))), ?_⟩
 refine rp_buildSliceR hF hl rfl rfl rfl rfl rfl Tryz.underlying31 rfl (c := [iv (cmpI x.frm y.frm), iv (cmpI y.upto x.upto), iv (cmpI x.kind y.kind)]) (by kernel_rfl) ?_; intro B20 S1 hg20 hr20 hl; have hlt20 := hr20.1
 refine rp_callL hl rfl rfl rfl rfl rfl rfl rfl (spec36 (some ⟨B20, 0, none⟩) 3 [cmpI x.frm y.frm, cmpI y.upto x.upto, cmpI x.kind y.kind] (by simp) (ints3 hr20)) ?_; rintro v S1 hk1 rfl hl; refine ⟨stays_of ⟨(by first | exact stays_load (X := True) rfl rfl (load1_of (by kernel_rfl) (hl.get 0 rfl) rfl) (same_atom (atom_int _ _)) rfl trivial | exact stays_load (X := True) rfl rfl (load1_of (by kernel_rfl) (hl.get 1 rfl) rfl) (same_atom (atom_int _ _)) rfl trivial | exact stays_new (X := True) rfl ((hk1.2 B20 hlt20).trans hg20) (sameL_atoms _ _ (by simp) (atoms_cons (atom_int _ _) (atoms_cons (atom_int _ _) (atoms_cons (atom_int _ _) atoms_nil)))) trivial), allE_left (allE_left (allE_left (by repeat (first | exact trivial | refine ⟨(by first | exact stays_load (X := True) rfl rfl (load1_of (by kernel_rfl) (hl.get 0 rfl) rfl) (same_atom (atom_int _ _)) rfl trivial | exact stays_load (X := True) rfl rfl (load1_of (by kernel_rfl) (hl.get 1 rfl) rfl) (same_atom (atom_int _ _)) rfl trivial | exact stays_new (X := True) rfl ((hk1.2 B20 hlt20).trans hg20) (sameL_atoms _ _ (by simp) (atoms_cons (atom_int _ _) (atoms_cons (atom_int _ _) (atoms_cons (atom_int _ _) atoms_nil)))) trivial), ?_⟩))))⟩, ?_⟩
 refine pm rfl ?_; refine rp_end rfl ?_; refine xp_ret rfl ?_
 refine done_ret (ress_tmp rfl rfl) ⟨hl.keep, rfl⟩
end Go.Proofs.YtkmhecihkckcmaaGreatDoor
namespace Go.Proofs.YtkmhecihkckcmaaGreatDoor
open Go.Cm Go
set_option maxRecDepth 100000
variable {S : St}
def Bks (S : St) (v : Value) (L : List Bk) : Prop := SliceAt S 46 3 v (L.map Bk.cells)
theorem Bks.move {S S' : St} (h : RK S S') {v : Value} {L : List Bk} (hs : Bks S v L) : Bks S' v L := SliceAt.move h hs
theorem Bks.is {S : St} {v : Value} {L : List Bk} (h : Bks S v L) : ∃ a cap, v = .slice a L.length cap := by
 obtain ⟨a, cap, e⟩ := SliceAt.is h
 exact ⟨a, cap, by simpa using e⟩
theorem Bks.elem {S : St} {a : Option Addr} {len cap : Nat} {L : List Bk} (h : Bks S (.slice a len cap) L) {k : Nat} {x : Bk} (hk : nth L k = some x) :
  ∃ b o cs, a = some ⟨b, o, none⟩ ∧ len = L.length ∧ RowAt S b 46 cs ∧ takeN 3 (dropN (o + k * 3) cs) = some x.cells := by
 obtain ⟨b, o, cs, h1, h2, h3, h4⟩ := SliceAt.elem h (nth_map Bk.cells hk)
 exact ⟨b, o, cs, h1, by simpa using h2, h3, h4⟩
theorem eqBk (s r : Bk) : eqV Tryz.prog eqDepth 46 s.v r.v = some (decide (s = r)) := by
 have h : eqV Tryz.prog 40 46 (aggL s.cells) (aggL r.cells) = _ := eq_struct Tryz.underlying46 (by kernel_rfl) (eqFields_cons (by kernel_rfl) (part1 (by kernel_rfl) rfl) (part1 (by kernel_rfl) rfl) (eq_int Tryz.underlying3) (eqFields_cons (by kernel_rfl) (part1 (by kernel_rfl) rfl) (part1 (by kernel_rfl) rfl) (eq_int Tryz.underlying3) (eqFields_cons (by kernel_rfl) (part1 (by kernel_rfl) rfl) (part1 (by kernel_rfl) rfl) (eq_int Tryz.underlying3) rfl)))
 refine h.trans (congrArg some ?_)
 cases s; cases r
 simp only [Bk.mk.injEq]
 rw [Bool.eq_iff_iff]
 simp [and_assoc]
theorem neBk (xo yo : Operand) (s r : Bk) : binV Tryz.prog .neq 46 xo yo s.v r.v = some (.bool (!decide (s = r))) := bin_ne (by kernel_rfl) (eqBk s r)
noncomputable def c10 : Code := Tryz.f10.body.getD .skip
theorem spec10 (a1 a2 : Option Addr) (cap1 cap2 : Nat) (l1 l2 : List Int) (hn : l1.length ≤ 1000000) (hv1 : Ints S (.slice a1 l1.length cap1) l1) (hv2 : Ints S (.slice a2 l2.length cap2) l2) : CC Tryz.prog KK 10 [.slice a1 l1.length cap1, .slice a2 l2.length cap2] S (fun v S' => Keep S S' ∧ v = .bool (decide (l1 = l2))) := by
 refine cc_enter (c := c10) (n := 26) Tryz.func10 rfl rfl rfl (by kernel_rfl) rfl rfl ?_
 have hl := Hold.start S
 refine xs (by kernel_rfl) ?_; refine rm rfl ?_; refine re_end rfl ?_; refine xp_seq rfl ?_; refine xs (by kernel_rfl) ?_; refine rm rfl ?_; refine rr rfl (rd_len rfl rfl (len_slice Tryz.underlying31)) ?_; refine rm rfl ?_; refine rr rfl (rd_len rfl rfl (len_slice Tryz.underlying31)) ?_; refine rr rfl (rd_bin rfl rfl rfl rfl) ?_; refine re_end rfl ?_; refine xp_cond rfl rfl (fun h10 => ?_) (fun h10 => ?_)
 ·
  refine xs (by kernel_rfl) ?_; refine rm rfl ?_; refine re_end rfl ?_; refine xp_ret rfl ?_
  refine thn_ret (done_ret (ress_tmp rfl rfl) ⟨hl.keep, congrArg Value.bool (by symm; rw [decide_eq_false_iff_not]; rintro rfl; simp at h10)⟩)
 ·
  refine xp_skip rfl ?_; refine xp_seq rfl ?_; refine xs (by kernel_rfl) ?_; refine rm rfl ?_; refine re_end rfl ?_; refine xp_block rfl ?_
  -- LOOP
  have hlen : l1.length = l2.length := by simp at h10; omega
  refine xe_sub (L' := [(5, .int .i64 0), (0, .slice a1 l1.length cap1), (1, .slice a2 l2.length cap2)]) ⟨rfl, rfl, rfl, trivial⟩ ?_
  refine xp_loop rfl (fun m Le S' => ∃ i : Nat, i ≤ l1.length ∧ m = l1.length - i ∧ SubE [(5, .int .i64 (i : Int)), (0, .slice a1 l1.length cap1), (1, .slice a2 l2.length cap2)] Le ∧ (∀ j, j < i → nth l1 j = nth l2 j) ∧ Hold S [S] S' []) ?_ (m := l1.length) ⟨0, by omega, by omega, ⟨rfl, rfl, rfl, trivial⟩, fun j hj => by omega, hl⟩
  clear hl; rintro m Le S' ⟨i, hi, rfl, hsub, heq, hl⟩; refine xe_sub hsub ?_
  refine xp_seq rfl ?_; refine xs (by kernel_rfl) ?_; iterate 2 refine rm rfl ?_
  refine rr rfl (rd_len rfl rfl (len_slice Tryz.underlying31)) ?_; refine rr rfl (rd_bin rfl rfl rfl rfl) ?_; refine re_end rfl ?_; refine xp_cond rfl rfl (fun h14 => ?_) (fun h14 => ?_)
  ·
   have hlt : i < l1.length := by have := of_decide_eq_true h14; omega
   obtain ⟨x, hx⟩ := nth_some hlt
   obtain ⟨y, hy⟩ := nth_some (hlen ▸ hlt)
   obtain ⟨b1, o1, cs1, ha1, _, hrow1, htk1⟩ := hv1.elem hx
   obtain ⟨b2, o2, cs2, ha2, _, hrow2, htk2⟩ := hv2.elem hy
   refine xp_skip rfl ?_; refine xp_seq rfl ?_; refine xp_block rfl ?_; refine xp_seq rfl ?_; refine xp_draw (idx := [0, 1, 2, 3, 4, 5, 6, 7, 8]) rfl (by kernel_rfl) (by kernel_rfl) ?_; iterate 2 refine pm rfl ?_
   refine pr rfl (rd_indexAddr rfl rfl rfl (indexAddr_sl (z := 1) ha1 Tryz.underlying31 (by kernel_rfl) ⟨by omega, by omega⟩)) ?_; refine pk rfl (rd_load rfl rfl (load1_row (by kernel_rfl) (row_move (hl.since 0 rfl) hrow1) (tk_nth (j := 0) htk1 rfl))) ?_; iterate 2 refine pm rfl ?_
   refine pr rfl (rd_indexAddr rfl rfl rfl (indexAddr_sl (z := 1) ha2 Tryz.underlying31 (by kernel_rfl) ⟨by omega, by omega⟩)) ?_; refine pk rfl (rd_load rfl rfl (load1_row (by kernel_rfl) (row_move (hl.since 0 rfl) hrow2) (tk_nth (j := 0) htk2 rfl))) ?_; refine pr rfl (rd_bin rfl rfl rfl rfl) ?_; refine rp_end rfl ?_; refine xp_cond rfl rfl (fun h25 => ?_) (fun h25 => ?_)
   ·
    refine xs (by kernel_rfl) ?_; refine rm rfl ?_; refine re_end rfl ?_; refine xp_ret rfl ?_
    refine blk_ret (thn_ret (round_ret (blk_ret (thn_ret (done_ret (ress_tmp rfl rfl) ⟨hl.keep, congrArg Value.bool (by symm; rw [decide_eq_false_iff_not]; rintro rfl; rw [hx] at hy; cases hy; simp at h25)⟩)))))
   ·
    refine xp_skip rfl ?_; refine xg (by kernel_rfl) ?_; refine rm rfl ?_; refine rr rfl (rd_bin rfl rfl rfl (i6 (by omega))) ?_; refine rm rfl ?_; refine re_end rfl ?_
    refine ⟨l1.length - (i + 1), by omega, i + 1, by omega, rfl, ⟨rfl, rfl, rfl, trivial⟩, fun j hj => ?_, hl⟩
    rcases Nat.lt_succ_iff_lt_or_eq.1 hj with hj | rfl
    ·exact heq j hj
    ·rw [hx, hy]; congr 1; simpa using h25
  ·
   refine xp_exit rfl ?_; refine xs (by kernel_rfl) ?_; refine rm rfl ?_; refine re_end rfl ?_; refine xp_ret rfl ?_
   refine done_ret (ress_tmp rfl rfl) ⟨hl.keep, congrArg Value.bool (by symm; rw [decide_eq_true_iff]; exact nth_ext hlen (fun j hj => heq j (by have := of_decide_eq_false h14; omega)))⟩
noncomputable def c12 : Code := Tryz.f12.body.getD .skip
theorem spec12 (a1 a2 : Option Addr) (cap1 cap2 : Nat) (l1 l2 : List Bk) (hn : l1.length ≤ 1000000) (hv1 : Bks S (.slice a1 l1.length cap1) l1) (hv2 : Bks S (.slice a2 l2.length cap2) l2) : CC Tryz.prog KK 12 [.slice a1 l1.length cap1, .slice a2 l2.length cap2] S (fun v S' => Keep S S' ∧ v = .bool (decide (l1 = l2))) := by
 refine cc_enter (c := c12) (n := 26) Tryz.func12 rfl rfl rfl (by kernel_rfl) rfl rfl ?_
 have hl := Hold.start S
 refine xs (by kernel_rfl) ?_; refine rm rfl ?_; refine re_end rfl ?_; refine xp_seq rfl ?_; refine xs (by kernel_rfl) ?_; refine rm rfl ?_; refine rr rfl (rd_len rfl rfl (len_slice Tryz.underlying25)) ?_; refine rm rfl ?_; refine rr rfl (rd_len rfl rfl (len_slice Tryz.underlying25)) ?_; refine rr rfl (rd_bin rfl rfl rfl rfl) ?_; refine re_end rfl ?_; refine xp_cond rfl rfl (fun h10 => ?_) (fun h10 => ?_)
 ·
  refine xs (by kernel_rfl) ?_; refine rm rfl ?_; refine re_end rfl ?_; refine xp_ret rfl ?_
  refine thn_ret (done_ret (ress_tmp rfl rfl) ⟨hl.keep, congrArg Value.bool (by symm; rw [decide_eq_false_iff_not]; rintro rfl; simp at h10)⟩)
 ·
  refine xp_skip rfl ?_; refine xp_seq rfl ?_; refine xs (by kernel_rfl) ?_; refine rm rfl ?_; refine re_end rfl ?_; refine xp_block rfl ?_
  -- LOOP
  have hlen : l1.length = l2.length := by simp at h10; omega
  refine xe_sub (L' := [(5, .int .i64 0), (0, .slice a1 l1.length cap1), (1, .slice a2 l2.length cap2)]) ⟨rfl, rfl, rfl, trivial⟩ ?_
  refine xp_loop rfl (fun m Le S' => ∃ i : Nat, i ≤ l1.length ∧ m = l1.length - i ∧ SubE [(5, .int .i64 (i : Int)), (0, .slice a1 l1.length cap1), (1, .slice a2 l2.length cap2)] Le ∧ (∀ j, j < i → nth l1 j = nth l2 j) ∧ Hold S [S] S' []) ?_ (m := l1.length) ⟨0, by omega, by omega, ⟨rfl, rfl, rfl, trivial⟩, fun j hj => by omega, hl⟩
  clear hl; rintro m Le S' ⟨i, hi, rfl, hsub, heq, hl⟩; refine xe_sub hsub ?_
  refine xp_seq rfl ?_; refine xs (by kernel_rfl) ?_; iterate 2 refine rm rfl ?_
  refine rr rfl (rd_len rfl rfl (len_slice Tryz.underlying25)) ?_; refine rr rfl (rd_bin rfl rfl rfl rfl) ?_; refine re_end rfl ?_; refine xp_cond rfl rfl (fun h14 => ?_) (fun h14 => ?_)
  ·
   have hlt : i < l1.length := by have := of_decide_eq_true h14; omega
   obtain ⟨x, hx⟩ := nth_some hlt
   obtain ⟨y, hy⟩ := nth_some (hlen ▸ hlt)
   obtain ⟨b1, o1, cs1, ha1, _, hrow1, htk1⟩ := hv1.elem hx
   obtain ⟨b2, o2, cs2, ha2, _, hrow2, htk2⟩ := hv2.elem hy
   refine xp_skip rfl ?_; refine xp_seq rfl ?_; refine xp_block rfl ?_; refine xp_seq rfl ?_; refine xp_draw (idx := [0, 1, 2, 3, 4, 5, 6, 7, 8]) rfl (by kernel_rfl) (by kernel_rfl) ?_; iterate 2 refine pm rfl ?_
   refine pr rfl (rd_indexAddr rfl rfl rfl (indexAddr_sl (z := 3) ha1 Tryz.underlying25 (by kernel_rfl) ⟨by omega, by omega⟩)) ?_; refine pk rfl (rd_load rfl rfl (loadN_row (z := 3) (by kernel_rfl) (by kernel_rfl) (row_move (hl.since 0 rfl) hrow1) htk1)) ?_; iterate 2 refine pm rfl ?_
   refine pr rfl (rd_indexAddr rfl rfl rfl (indexAddr_sl (z := 3) ha2 Tryz.underlying25 (by kernel_rfl) ⟨by omega, by omega⟩)) ?_; refine pk rfl (rd_load rfl rfl (loadN_row (z := 3) (by kernel_rfl) (by kernel_rfl) (row_move (hl.since 0 rfl) hrow2) htk2)) ?_; refine pr rfl (rd_bin rfl rfl rfl (neBk _ _ x y)) ?_; refine rp_end rfl ?_; refine xp_cond rfl rfl (fun h25 => ?_) (fun h25 => ?_)
   ·
    refine xs (by kernel_rfl) ?_; refine rm rfl ?_; refine re_end rfl ?_; refine xp_ret rfl ?_
    refine blk_ret (thn_ret (round_ret (blk_ret (thn_ret (done_ret (ress_tmp rfl rfl) ⟨hl.keep, congrArg Value.bool (by symm; rw [decide_eq_false_iff_not]; rintro rfl; rw [hx] at hy; cases hy; simp at h25)⟩)))))
   ·
    refine xp_skip rfl ?_; refine xg (by kernel_rfl) ?_; refine rm rfl ?_; refine rr rfl (rd_bin rfl rfl rfl (i6 (by omega))) ?_; refine rm rfl ?_; refine re_end rfl ?_
    refine ⟨l1.length - (i + 1), by omega, i + 1, by omega, rfl, ⟨rfl, rfl, rfl, trivial⟩, fun j hj => ?_, hl⟩
    rcases Nat.lt_succ_iff_lt_or_eq.1 hj with hj | rfl
    ·exact heq j hj
    ·rw [hx, hy]; congr 1; simpa using h25
  ·
   refine xp_exit rfl ?_; refine xs (by kernel_rfl) ?_; refine rm rfl ?_; refine re_end rfl ?_; refine xp_ret rfl ?_
   refine done_ret (ress_tmp rfl rfl) ⟨hl.keep, congrArg Value.bool (by symm; rw [decide_eq_true_iff]; exact nth_ext hlen (fun j hj => heq j (by have := of_decide_eq_false h14; omega)))⟩
end Go.Proofs.YtkmhecihkckcmaaGreatDoor
namespace Go.Proofs.YtkmhecihkckcmaaGreatDoor
open Go.Cm Go
set_option maxRecDepth 100000
variable {S : St}
noncomputable def c5 : Code := Tryz.f5.body.getD .skip
theorem spec5 (nm : ByteArray) (a : Option Addr) (cap : Nat) (C : List Sg) (hn : C.length ≤ 1000) (hv : Signs S (.slice a C.length cap) C) : CC Tryz.prog KK 5 [aggL [.string nm, .slice a C.length cap]] S (fun v S' => Keep S S' ∧ (∃ az cz, v = aggL [.string nm, .slice az C.length cz] ∧ Signs S' (.slice az C.length cz) C)) := by
 refine cc_enter (c := c5) (n := 9) Tryz.func5 rfl rfl rfl (by kernel_rfl) rfl rfl ?_
 have hl := Hold.start S
 refine xs (by kernel_rfl) ?_; refine re_boxL hl rfl rfl rfl rfl rfl rfl ?_; intro B1 S1 hl; refine re_allocL hl rfl rfl rfl rfl rfl (z := [.string ⟨#[]⟩, .slice none 0 0]) (by kernel_rfl) ?_; intro B2 S2 hl; refine re_end rfl ?_; refine xp_seq rfl ?_; refine xp_draw (idx := [0, 1, 2, 3, 4, 5, 6]) rfl (by kernel_rfl) (by kernel_rfl) ?_; refine pr rfl (rd_fieldAddr rfl rfl (fa Tryz.underlying24 az24 rfl)) ?_; refine pk rfl (rl hl 1 rfl rfl (by kernel_rfl) rfl rfl) ?_; refine pr rfl (rd_fieldAddr rfl rfl (fa Tryz.underlying24 az24 rfl)) ?_; refine pk rfl (rl hl 1 rfl rfl (by kernel_rfl) rfl rfl) ?_
 refine rp_callL hl rfl rfl rfl rfl rfl rfl rfl (spec19 a cap C hn (hv.move (hl.since 0 rfl))) ?_; rintro v S1 hk1 hg hl; refine ⟨stays_of (by repeat (first | exact trivial | refine ⟨(by first | exact stays_load (X := True) rfl rfl (load1_of (by kernel_rfl) (hl.get 1 rfl) rfl) (same_atom (atom_slice _ _ _)) rfl trivial | exact stays_load (X := True) rfl rfl (load1_of (by kernel_rfl) (hl.get 1 rfl) rfl) (same_atom (atom_string _)) rfl trivial | exact stays_new (X := True) rfl (hl.get 0 rfl) (sameL_atoms _ _ (by decide) (atoms_cons (atom_string _) (atoms_cons (atom_slice _ _ _) atoms_nil))) trivial), ?_⟩)), ?_⟩
 obtain ⟨az, rfl⟩ : ∃ az, v = .slice az C.length C.length := Grow.is hg
 have hl := hl.mark
 refine pr rfl (rd_build rfl rfl (v := aggL [.string nm, .slice az C.length C.length]) (by rfl)) ?_
 refine rp_storeL hl 0 rfl rfl rfl rfl rfl rfl rfl (by kernel_rfl) rfl ?_; intro S1 hl; refine ⟨stays_all (by kernel_rfl), ?_⟩
 refine rp_end rfl ?_; refine xp_ret rfl ?_
 refine done_ret (ress_cell rfl (loadN_of (z := 2) (by kernel_rfl) (by kernel_rfl) (hl.get 0 rfl) rfl) rfl) ⟨hl.keep, ⟨az, C.length, rfl, (GrowS.signs hg).move (hl.since 0 rfl)⟩⟩
noncomputable def c11 : Code := Tryz.f11.body.getD .skip
theorem spec11 (n1 n2 : ByteArray) (a1 a2 : Option Addr) (cap1 cap2 : Nat) (C D : List Sg) (hn : C.length ≤ 1000) (hv : Signs S (.slice a1 C.length cap1) C) (hw : Signs S (.slice a2 D.length cap2) D) : CC Tryz.prog KK 11 [aggL [.string n1, .slice a1 C.length cap1], aggL [.string n2, .slice a2 D.length cap2]] S (fun v S' => Keep S S' ∧ v = .bool (sameBytes n1.data.toList n2.data.toList && decide (C = D))) := by
 refine cc_enter (c := c11) (n := 17) Tryz.func11 rfl rfl rfl (by kernel_rfl) rfl rfl ?_
 have hl := Hold.start S
 refine xs (by kernel_rfl) ?_; refine re_boxL hl rfl rfl rfl rfl rfl rfl ?_; intro B2 S2 hl; refine re_boxL hl rfl rfl rfl rfl rfl rfl ?_; intro B3 S3 hl; refine rm rfl ?_; refine re_end rfl ?_; refine xe_sub (L' := [(3, ptrTo B3 0), (2, ptrTo B2 0)]) ⟨rfl, rfl, trivial⟩ ?_; refine xp_seq rfl (xe_toE hl 4 (.bool (sameBytes n1.data.toList n2.data.toList && decide (C = D))) ?_ rfl ?_)
 ·
  refine xg (by kernel_rfl) ?_; refine rr rfl (rd_fieldAddr rfl rfl (fa Tryz.underlying24 az24 rfl)) ?_; refine rr rfl (rl hl 1 rfl rfl (by kernel_rfl) rfl rfl) ?_; refine rr rfl (rd_fieldAddr rfl rfl (fa Tryz.underlying24 az24 rfl)) ?_; refine rr rfl (rl hl 0 rfl rfl (by kernel_rfl) rfl rfl) ?_; refine rr rfl (rd_bin rfl rfl rfl rfl) ?_; refine rm rfl ?_; refine re_bool (d := 10) rfl (fun h10 => ?_) (fun h10 => ?_)
  ·
   refine rr rfl (rd_fieldAddr rfl rfl (fa Tryz.underlying24 az24 rfl)) ?_; refine rr rfl (rl hl 1 rfl rfl (by kernel_rfl) rfl rfl) ?_; refine rr rfl (rd_fieldAddr rfl rfl (fa Tryz.underlying24 az24 rfl)) ?_; refine rr rfl (rl hl 0 rfl rfl (by kernel_rfl) rfl rfl) ?_
   refine re_callL hl rfl rfl rfl rfl rfl rfl rfl (spec26 a1 a2 cap1 cap2 C D hn (hv.move (hl.since 0 rfl)) (hw.move (hl.since 0 rfl))) ?_; rintro v S1 hk1 rfl hl
   iterate 2 refine rm rfl ?_
   refine re_end rfl ?_
   exact ⟨rfl, bl (by first | (simp [h10]; done) | (simp only [h10, BLs])), by repeat (first | exact subL_refl _ | refine subL_skip rfl ?_), hl⟩
  ·
   iterate 5 refine rz rfl ?_
   iterate 2 refine rm rfl ?_
   refine re_end rfl ?_
   exact ⟨rfl, bl (by first | (simp [h10]; done) | (simp only [h10, BLs])), by repeat (first | exact subL_refl _ | refine subL_skip rfl ?_), hl⟩
 intro S1 hl
 refine xp_ret rfl ?_
 refine done_ret (ress_tmp rfl rfl) ⟨hl.keep, rfl⟩
end Go.Proofs.YtkmhecihkckcmaaGreatDoor
namespace Go.Proofs.YtkmhecihkckcmaaGreatDoor
open Go.Cm Go
set_option maxRecDepth 100000
variable {S : St}
def firstsN (C : List Sg) (i : Nat) : List Int := ((List.range' 0 i).filter fun j => tiedI C (j : Nat) && !openB C j).map fun j => ((j : Nat) : Int)
def lastsN (C : List Sg) (i : Nat) : List Int := ((List.range' 0 i).filter fun j => tiedI C (j : Nat) && (sgI C (j : Nat)).last).map fun j => ((j : Nat) : Int)
theorem firstsN_succ (C : List Sg) (i : Nat) : firstsN C (i + 1) = firstsN C i ++ bif tiedI C (i : Nat) && !openB C i then [((i : Nat) : Int)] else [] := by
 unfold firstsN
 rw [List.range'_concat, List.filter_append, List.map_append]
 congr 1
 simp only [Nat.zero_add, Nat.one_mul, List.filter_cons, List.filter_nil]
 cases (tiedI C (i : Nat) && !openB C i) <;> rfl
theorem lastsN_succ (C : List Sg) (i : Nat) : lastsN C (i + 1) = lastsN C i ++ bif tiedI C (i : Nat) && (sgI C (i : Nat)).last then [((i : Nat) : Int)] else [] := by
 unfold lastsN
 rw [List.range'_concat, List.filter_append, List.map_append]
 congr 1
 simp only [Nat.zero_add, Nat.one_mul, List.filter_cons, List.filter_nil]
 cases (tiedI C (i : Nat) && (sgI C (i : Nat)).last) <;> rfl
theorem firstsN_len (C : List Sg) (i : Nat) : (firstsN C i).length ≤ i := by
 unfold firstsN
 rw [List.length_map]
 exact Nat.le_trans (List.length_filter_le _ _) (by simp)
theorem lastsN_len (C : List Sg) (i : Nat) : (lastsN C i).length ≤ i := by
 unfold lastsN
 rw [List.length_map]
 exact Nat.le_trans (List.length_filter_le _ _) (by simp)
theorem open_sg {C : List Sg} {i : Nat} (h : (!tiedI C ((i : Int) - 1)) = false) : (sgI C ((i : Int) - 1)).last = !openB C i := by
 obtain ⟨j, rfl, s, hs, hk⟩ := tied_prev h
 rw [show (((j + 1 : Nat) : Int) - 1) = (j : Int) by omega, sgI_at hs]
 exact open_last hs hk
def gLi (v : Value) (l : List Int) : Gr := ⟨v, 3, 1, l.map iv, l.length⟩
theorem growI' {S0 S : St} {v : Value} {l : List Int} (h : Grow S0 S (gLi v l)) : Ints S v l := growI h
theorem apart0 (l r : List Int) : Apart [gLi (.slice none 0 0) l, gLi (.slice none 0 0) r] := fun i j g h _ hi _ => by
 match i with
 | 0 => cases hi; exact .inl rfl
 | 1 => cases hi; exact .inl rfl
 | i + 2 => cases i <;> cases hi
noncomputable def c58 : Code := Tryz.f58.body.getD .skip
theorem spec58 (nm : ByteArray) (a : Option Addr) (cap : Nat) (C : List Sg) (hnm : nm.data.toList.length ≤ 9223372036854775807) (hn : C.length ≤ 1000) (hv : Signs S (.slice a C.length cap) C) : CC Tryz.prog KK 58 [aggL [.string nm, .slice a C.length cap]] S (fun v S' => Keep S S' ∧ (∃ w1 w2, v = tupV [w1, w2, .int .i64 (partE nm.data.toList C).1] ∧ ((partE nm.data.toList C).1 = 0 → GrowI S S' w1 (firstsN C C.length) ∧ GrowI S S' w2 (lastsN C C.length) ∧ Apart [gLi w1 (firstsN C C.length), gLi w2 (lastsN C C.length)]))) := by
 refine cc_enter (c := c58) (n := 61) Tryz.func58 rfl rfl rfl (by kernel_rfl) rfl rfl ?_
 have hl := Hold.start S
 refine xs (by kernel_rfl) ?_; refine re_boxL hl rfl rfl rfl rfl rfl rfl ?_; intro B1 S1 hl; iterate 3 refine rm rfl ?_
 refine re_end rfl ?_; refine xp_seq rfl ?_; refine xs (by kernel_rfl) ?_; refine rr rfl (rd_load rfl rfl (loadN_of (z := 2) (by kernel_rfl) (by kernel_rfl) (hl.get 0 rfl) rfl)) ?_
 refine re_callL hl rfl rfl rfl rfl rfl rfl rfl (spec69 nm a cap C hnm hn (hv.move (hl.since 0 rfl))) ?_; rintro v S1 hk1 rfl hl
 iterate 5 refine rm rfl ?_
 refine re_end rfl ?_; refine xs (by kernel_rfl) ?_; refine rm rfl ?_; refine rr rfl (rd_bin rfl rfl rfl rfl) ?_; refine re_end rfl ?_; refine xp_cond rfl rfl (fun h16 => ?_) (fun h16 => ?_)
 ·
  refine xs (by kernel_rfl) ?_; iterate 4 refine rm rfl ?_
  refine re_end rfl ?_; refine xp_ret rfl ?_
  refine thn_ret (done_ret (ress_tmp rfl (ress_tmp rfl (ress_tmp rfl rfl))) ⟨hl.keep, ⟨_, _, rfl, fun h => absurd h (by simpa using h16)⟩⟩)
 ·
  refine xp_skip rfl ?_; refine xs (by kernel_rfl) ?_; iterate 2 refine rm rfl ?_
  refine re_end rfl ?_; refine xp_seq rfl ?_; refine xs (by kernel_rfl) ?_; refine rm rfl ?_; refine re_end rfl ?_; refine xp_block rfl ?_
  -- LOOP
  have hl := (hl.addG (g := gLi (.slice none 0 0) []) (.inl ⟨rfl, rfl, rfl⟩)).addG (g := gLi (.slice none 0 0) []) (.inl ⟨rfl, rfl, rfl⟩)
  refine xe_sub (L' := [(9, .int .i64 0), (8, .slice none (lastsN C 0).length (lastsN C 0).length), (7, .slice none (firstsN C 0).length (firstsN C 0).length), (4, .int .i64 0), (1, ptrTo B1 0)]) ⟨rfl, rfl, rfl, rfl, rfl, trivial⟩ ?_
  refine xp_loop rfl (fun m Le S' => ∃ (i : Nat) (a1 a2 : Option Addr), i ≤ C.length ∧ m = C.length - i ∧ SubE [(9, .int .i64 (i : Int)), (8, .slice a2 (lastsN C i).length (lastsN C i).length), (7, .slice a1 (firstsN C i).length (firstsN C i).length), (4, .int .i64 0), (1, ptrTo B1 0)] Le ∧ Apart [gLi (.slice a1 (firstsN C i).length (firstsN C i).length) (firstsN C i), gLi (.slice a2 (lastsN C i).length (lastsN C i).length) (lastsN C i)] ∧ HoldG S [S] S' [(B1, .cells [.string nm, .slice a C.length cap] 24 false true [])] [gLi (.slice a1 (firstsN C i).length (firstsN C i).length) (firstsN C i), gLi (.slice a2 (lastsN C i).length (lastsN C i).length) (lastsN C i)]) ?_ (m := C.length) ⟨0, none, none, by omega, by omega, ⟨rfl, rfl, rfl, rfl, rfl, trivial⟩, apart0 _ _, hl⟩
  clear hl; rintro m Le S' ⟨i, a1, a2, hi, rfl, hsub, hA, hl⟩; refine xe_sub hsub ?_
  refine xp_seq rfl ?_; refine xs (by kernel_rfl) ?_; refine rm rfl ?_; refine rr rfl (rd_fieldAddr rfl rfl (fa Tryz.underlying24 az24 rfl)) ?_; refine rr rfl (rl hl 0 rfl rfl (by kernel_rfl) rfl rfl) ?_; refine rr rfl (rd_len rfl rfl (len_slice Tryz.underlying22)) ?_; refine rr rfl (rd_bin rfl rfl rfl rfl) ?_; refine re_end rfl ?_; refine xp_cond rfl rfl (fun h22 => ?_) (fun h22 => ?_)
  ·
   have hlt : i < C.length := by have := of_decide_eq_true h22; omega
   obtain ⟨b, o, cs, rfl, hrow, hall⟩ := hv.row (by omega)
   refine xp_skip rfl ?_; refine xp_seq rfl ?_; refine xp_block rfl ?_; refine xp_seq rfl ?_; refine xs (by kernel_rfl) ?_; refine rr rfl (rd_fieldAddr rfl rfl (fa Tryz.underlying24 az24 rfl)) ?_; refine rr rfl (rl hl 0 rfl rfl (by kernel_rfl) rfl rfl) ?_; refine rm rfl ?_
   refine re_callL hl rfl rfl rfl rfl rfl rfl rfl (spec70 _ cap C i (hv.move (hl.since 0 rfl))) ?_; rintro v S1 hk1 rfl hl
   refine rr rfl (rd_un rfl rfl rfl) ?_; refine re_end rfl ?_; refine xp_cond rfl rfl (fun h29 => ?_) (fun h29 => ?_)
   ·
    refine xp_exit rfl ?_; refine xg (by kernel_rfl) ?_; refine rm rfl ?_; refine rr rfl (rd_bin rfl rfl rfl (i6 (by first | omega | (simp at *; omega)))) ?_; refine rm rfl ?_; refine re_end rfl ?_
    have e1 : firstsN C (i + 1) = firstsN C i := by rw [firstsN_succ, show tiedI C (i : Nat) = false by simpa using h29]; exact List.append_nil _
    have e2 : lastsN C (i + 1) = lastsN C i := by rw [lastsN_succ, show tiedI C (i : Nat) = false by simpa using h29]; exact List.append_nil _
    exact ⟨C.length - (i + 1), by omega, i + 1, a1, a2, by omega, rfl, by rw [e1, e2]; exact ⟨rfl, rfl, rfl, rfl, rfl, trivial⟩, by rw [e1, e2]; exact hA, by rw [e1, e2]; exact hl⟩
   ·
    refine xp_skip rfl ?_
    have hti : tiedI C (i : Nat) = true := by simpa using h29
    refine xp_seq rfl (xe_cut (fun Le S' => ∃ a3, SubE [(9, .int .i64 (i : Int)), (8, .slice a2 (lastsN C i).length (lastsN C i).length), (7, .slice a3 (firstsN C (i + 1)).length (firstsN C (i + 1)).length), (4, .int .i64 0), (1, ptrTo B1 0)] Le ∧ Apart [gLi (.slice a3 (firstsN C (i + 1)).length (firstsN C (i + 1)).length) (firstsN C (i + 1)), gLi (.slice a2 (lastsN C i).length (lastsN C i).length) (lastsN C i)] ∧ HoldG S [S] S' [(B1, .cells [.string nm, .slice (some ⟨b, o, none⟩) C.length cap] 24 false true [])] [gLi (.slice a3 (firstsN C (i + 1)).length (firstsN C (i + 1)).length) (firstsN C (i + 1)), gLi (.slice a2 (lastsN C i).length (lastsN C i).length) (lastsN C i)]) ?_ ?_)
    ·
     refine xp_seq rfl (xe_toE hl 44 (.bool (!openB C i)) ?_ rfl ?_)
     ·
      refine xg (by kernel_rfl) ?_; refine rr rfl (rd_fieldAddr rfl rfl (fa Tryz.underlying24 az24 rfl)) ?_; refine rr rfl (rl hl 0 rfl rfl (by kernel_rfl) rfl rfl) ?_; refine rm rfl ?_; refine rr rfl (rd_bin rfl rfl rfl (i6 (by first | omega | (simp at *; omega)))) ?_
      refine re_callL hl rfl rfl rfl rfl rfl rfl rfl (spec70 _ cap C ((i : Int) - 1) (hv.move (hl.since 0 rfl))) ?_; rintro v S1 hk1 rfl hl
      refine rr rfl (rd_un rfl rfl rfl) ?_; refine rm rfl ?_; refine re_bool (d := 36) rfl (fun h36 => ?_) (fun h36 => ?_)
      ·
       iterate 7 refine rz rfl ?_
       refine rm rfl ?_; refine re_end rfl ?_
       exact ⟨rfl, bl (by rw [open_no h36]; rfl), by repeat (first | exact subL_refl _ | refine subL_skip rfl ?_), hl⟩
      ·
       have hi1 : 1 ≤ i := by obtain ⟨j, hj, _⟩ := tied_prev h36; omega
       refine rr rfl (rd_fieldAddr rfl rfl (fa Tryz.underlying24 az24 rfl)) ?_; refine rr rfl (rl hl 0 rfl rfl (by kernel_rfl) rfl rfl) ?_; refine rm rfl ?_; refine rr rfl (rd_bin rfl rfl rfl (i6 (by first | omega | (simp at *; omega)))) ?_; refine rr rfl (rd_indexAddr rfl rfl rfl (indexAddr_slice (z := 17) Tryz.underlying22 (by kernel_rfl) ⟨by first | omega | (simp at *; omega), by first | omega | (simp at *; omega)⟩)) ?_; refine rr rfl (rd_fieldAddr rfl rfl (fa Tryz.underlying63 az63 rfl)) ?_
       refine rr rfl (rd_load rfl rfl (load1_row (by kernel_rfl) (row_move (hl.since 0 rfl) hrow) (tk_nth (hall ((i : Int) - 1) (by obtain ⟨j, hj, _⟩ := tied_prev h36; omega) (by omega)) rfl))) ?_; refine rm rfl ?_; refine re_end rfl ?_
       exact ⟨rfl, bl (open_sg h36), by repeat (first | exact subL_refl _ | refine subL_skip rfl ?_), hl⟩
     intro S1 hl
     refine xp_cond rfl rfl (fun h44 => ?_) (fun h44 => ?_)
     ·
      refine xg (by kernel_rfl) ?_; iterate 2 refine rm rfl ?_
      refine re_buildSliceR hl rfl rfl rfl rfl rfl Tryz.underlying31 rfl (c := [iv (i : Int)]) (by kernel_rfl) ?_; intro B47 S1 hr47 hl; refine re_appendA hl hA 0 rfl rfl rfl rfl rfl rfl rfl rfl rfl Tryz.underlying31 Tryz.underlying31 rfl rfl (Nat.lt_succ_self 0) (by kernel_rfl) (src_row (new := [iv (i : Int)]) hr47 rfl) rfl rfl (by kernel_rfl) (by show (firstsN C i).length + 1 ≤ maxNeed; unfold maxNeed; have := firstsN_len C i; omega) ?_; intro v48 S1 hl hA; refine rm rfl ?_; refine re_end rfl ?_
      have e1 : firstsN C (i + 1) = firstsN C i ++ [((i : Nat) : Int)] := by rw [firstsN_succ, hti, h44]; rfl
      obtain ⟨a3, rfl⟩ : ∃ a3, v48 = .slice a3 ((firstsN C i).length + 1) ((firstsN C i).length + 1) := Grow.is (hl.gr _ (List.mem_cons_self ..))
      refine ⟨rfl, a3, ?_⟩
      rw [e1]
      simp only [gLi, List.length_append, List.length_singleton, List.map_append, List.map_cons, List.map_nil]
      exact ⟨⟨rfl, rfl, rfl, rfl, rfl, trivial⟩, hA, hl⟩
     ·
      refine xp_skip rfl ?_
      have e1 : firstsN C (i + 1) = firstsN C i := by rw [firstsN_succ, hti, h44]; exact List.append_nil _
      exact ⟨rfl, a1, by rw [e1]; exact ⟨⟨rfl, rfl, rfl, rfl, rfl, trivial⟩, hA, hl⟩⟩
    rintro Le S1 ⟨a3, hsub2, hA, hl⟩; refine xe_sub hsub2 ?_
    refine xs (by kernel_rfl) ?_; refine rr rfl (rd_fieldAddr rfl rfl (fa Tryz.underlying24 az24 rfl)) ?_; refine rr rfl (rl hl 0 rfl rfl (by kernel_rfl) rfl rfl) ?_; refine rm rfl ?_; refine rr rfl (rd_indexAddr rfl rfl rfl (indexAddr_slice (z := 17) Tryz.underlying22 (by kernel_rfl) ⟨by first | omega | (simp at *; omega), by first | omega | (simp at *; omega)⟩)) ?_; refine rr rfl (rd_fieldAddr rfl rfl (fa Tryz.underlying63 az63 rfl)) ?_
    refine rr rfl (rd_load rfl rfl (load1_row (by kernel_rfl) (row_move (hl.since 0 rfl) hrow) (tk_nth (hall _ (by first | omega | (simp at *; omega)) (by first | omega | (simp at *; omega))) rfl))) ?_; refine re_end rfl ?_; refine xp_cond rfl rfl (fun h54 => ?_) (fun h54 => ?_)
    ·
     refine xg (by kernel_rfl) ?_; iterate 2 refine rm rfl ?_
     refine re_buildSliceR hl rfl rfl rfl rfl rfl Tryz.underlying31 rfl (c := [iv (i : Int)]) (by kernel_rfl) ?_; intro B57 S1 hr57 hl; refine re_appendA hl hA 1 rfl rfl rfl rfl rfl rfl rfl rfl rfl Tryz.underlying31 Tryz.underlying31 rfl rfl (Nat.lt_succ_self 0) (by kernel_rfl) (src_row (new := [iv (i : Int)]) hr57 rfl) rfl rfl (by kernel_rfl) (by show (lastsN C i).length + 1 ≤ maxNeed; unfold maxNeed; have := lastsN_len C i; omega) ?_; intro v58 S1 hl hA; refine rm rfl ?_; refine re_end rfl ?_; refine xg (by kernel_rfl) ?_; refine rm rfl ?_
     refine rr rfl (rd_bin rfl rfl rfl (i6 (by first | omega | (simp at *; omega)))) ?_; refine rm rfl ?_; refine re_end rfl ?_
     have e2 : lastsN C (i + 1) = lastsN C i ++ [((i : Nat) : Int)] := by rw [lastsN_succ, hti, h54]; rfl
     obtain ⟨a4, rfl⟩ : ∃ a4, v58 = .slice a4 ((lastsN C i).length + 1) ((lastsN C i).length + 1) := Grow.is (hl.gr _ (List.mem_cons_of_mem _ (List.mem_cons_self ..)))
     refine ⟨C.length - (i + 1), by omega, i + 1, a3, a4, by omega, rfl, ?_⟩
     rw [e2]
     simp only [gLi, List.length_append, List.length_singleton, List.map_append, List.map_cons, List.map_nil]
     exact ⟨⟨rfl, rfl, rfl, rfl, rfl, trivial⟩, hA, hl⟩
    ·
     refine xp_skip rfl ?_; refine xg (by kernel_rfl) ?_; refine rm rfl ?_; refine rr rfl (rd_bin rfl rfl rfl (i6 (by first | omega | (simp at *; omega)))) ?_; refine rm rfl ?_; refine re_end rfl ?_
     have e2 : lastsN C (i + 1) = lastsN C i := by rw [lastsN_succ, hti, h54]; exact List.append_nil _
     exact ⟨C.length - (i + 1), by omega, i + 1, a3, a2, by omega, rfl, by rw [e2]; exact ⟨rfl, rfl, rfl, rfl, rfl, trivial⟩, by rw [e2]; exact hA, by rw [e2]; exact hl⟩
  ·
   refine xp_exit rfl ?_; refine xs (by kernel_rfl) ?_; iterate 5 refine rm rfl ?_
   refine re_end rfl ?_; refine xp_ret rfl ?_
   refine done_ret (ress_tmp rfl (ress_tmp rfl (ress_tmp rfl rfl))) ⟨hl.keep, by
   have hi2 : i = C.length := by have := of_decide_eq_false h22; omega
   subst hi2
   exact ⟨_, _, by rw [show (partE nm.data.toList C).1 = 0 by simpa using h16], fun _ => ⟨hl.gr _ (List.mem_cons_self ..), hl.gr _ (List.mem_cons_of_mem _ (List.mem_cons_self ..)), hA⟩⟩⟩
end Go.Proofs.YtkmhecihkckcmaaGreatDoor
namespace Go.Proofs.YtkmhecihkckcmaaGreatDoor
open Go.Cm Go
set_option maxRecDepth 100000
variable {S : St}
def OwnS (S S' : St) (v : Value) (C : List Sg) : Prop := ∃ b B0, v = .slice (some ⟨b, 0, none⟩) C.length C.length ∧ HoldG S [S] S' [(b, .cells (C.map Sg.cells).flatten 63 true true [B0]), (B0, .cells [] 63 true false [])] []
theorem own_none_nil {S : St} {a : Option Addr} {cap : Nat} {C : List Sg} (h : Signs S (.slice a C.length cap) C) (hne : 0 < C.length) : a.isNone = false := by
 obtain ⟨b, o, cs, rfl, _⟩ := h.row hne
 rfl
theorem ospec55 (a : Option Addr) (cap : Nat) (C : List Sg) (hn : C.length ≤ 1000) (hne : 0 < C.length) (hv : Signs S (.slice a C.length cap) C) : CC Tryz.prog KK 55 [.slice a C.length cap] S (fun v S' => Keep S S' ∧ OwnS S S' v C) := by
 refine cc_enter (c := c55) (n := 8) Tryz.func55 rfl rfl rfl (by kernel_rfl) rfl rfl ?_
 have hl := Hold.start S
 refine xs (by kernel_rfl) ?_; refine rm rfl ?_; refine re_end rfl ?_; refine xp_seq rfl ?_; refine xs (by kernel_rfl) ?_; refine rm rfl ?_; refine rr rfl (rd_bin rfl rfl rfl (eq_nil Tryz.underlying22)) ?_; refine re_end rfl ?_; refine xp_cond rfl rfl (fun h4 => ?_) (fun h4 => ?_)
 ·
  refine xs (by kernel_rfl) ?_; refine rm rfl ?_; refine re_end rfl ?_; refine xp_ret rfl ?_
  refine thn_ret (done_ret (ress_tmp rfl rfl) ⟨hl.keep, absurd h4 (by rw [own_none_nil hv hne]; simp)⟩)
 ·
  refine xp_skip rfl ?_; refine xs (by kernel_rfl) ?_; refine re_buildSliceB hl rfl rfl rfl rfl rfl Tryz.underlying22 rfl (c := []) (by kernel_rfl) ?_; intro B5 S1 hl; refine rm rfl ?_
  have hv' := hv.move (hl.since 0 rfl)
  refine re_appendT hl rfl rfl rfl rfl rfl rfl rfl Tryz.underlying22 Tryz.underlying22 rfl rfl hne (by kernel_rfl) hv'.cells (flatCell C) (by kernel_rfl) (by unfold maxNeed; omega) ?_; intro B7n S1 hl; refine rm rfl ?_; refine re_end rfl ?_; refine xp_ret rfl ?_
  refine done_ret (ress_tmp rfl rfl) ⟨hl.keep, ⟨_, _, rfl, hl⟩⟩
end Go.Proofs.YtkmhecihkckcmaaGreatDoor
namespace Go.Proofs.YtkmhecihkckcmaaGreatDoor
open Go.Cm Go
set_option maxRecDepth 100000
variable {S : St}
def scanN : Nat → List Sg → Int → Int → Int → Int × Int × Int
 | 0, _, _, f, t => (0, f, t)
 | n + 1, C, i, f, t => bif classI (sgI C i).kind == 1 then scanN n C (i + 1) (bif decide (f < 0) then i else f) (i + 1)
  else bif classI (sgI C i).kind == 2 then (bif decide (f < 0) then (13, f, t) else scanN n C (i + 1) f (i + 1))
  else scanN n C (i + 1) f t
theorem scan_1 {n : Nat} {C : List Sg} {i f t : Int} (h : (classI (sgI C i).kind == 1) = true) : scanN (n + 1) C i f t = scanN n C (i + 1) (bif decide (f < 0) then i else f) (i + 1) := by rw [scanN, h]; rfl
theorem scan_2 {n : Nat} {C : List Sg} {i f t : Int} (h : (classI (sgI C i).kind == 1) = false) (h2 : (classI (sgI C i).kind == 2) = true) (h3 : decide (f < 0) = true) : scanN (n + 1) C i f t = (13, f, t) := by rw [scanN, h, h2, h3]; rfl
theorem scan_3 {n : Nat} {C : List Sg} {i f t : Int} (h : (classI (sgI C i).kind == 1) = false) (h2 : (classI (sgI C i).kind == 2) = true) (h3 : decide (f < 0) = false) : scanN (n + 1) C i f t = scanN n C (i + 1) f (i + 1) := by rw [scanN, h, h2, h3]; rfl
theorem scan_4 {n : Nat} {C : List Sg} {i f t : Int} (h : (classI (sgI C i).kind == 1) = false) (h2 : (classI (sgI C i).kind == 2) = false) : scanN (n + 1) C i f t = scanN n C (i + 1) f t := by rw [scanN, h, h2]; rfl
def noM (a b c d : Int) : Bool := (a == 0) && ((b == 0) && ((c == 0) && ((d == 0) && true)))
def wholeE (C : List Sg) (p q : Nat) (a b c d : Int) : Int × Int × Int :=
 bif (scanN (q - p) C p (-1) 0).1 != 0 then scanN (q - p) C p (-1) 0 else bif decide ((scanN (q - p) C p (-1) 0).2.1 ≥ 0) && noM a b c d then (12, (scanN (q - p) C p (-1) 0).2) else scanN (q - p) C p (-1) 0
def secCells (f t a b c d : Int) : List Value := [.int .i64 f, .int .i64 t, .int .i64 a, .int .i64 b, .int .i64 c, .int .i64 d, .int .i64 0, .int .i64 0]
noncomputable def c61 : Code := Tryz.f61.body.getD .skip
theorem spec61 (a : Option Addr) (cap : Nat) (C : List Sg) (p q : Nat) (ma mb mc md : Int) (hn : C.length ≤ 1000) (hpq : p ≤ q) (hq : q ≤ C.length) (hv : Signs S (.slice a C.length cap) C) : CC Tryz.prog KK 61 [.slice a C.length cap, .int .i64 p, .int .i64 q, aggL [.int .i64 ma, .int .i64 mb, .int .i64 mc, .int .i64 md]] S (fun v S' => Keep S S' ∧ v = tupV [aggL (secCells (wholeE C p q ma mb mc md).2.1 (wholeE C p q ma mb mc md).2.2 ma mb mc md), .int .i64 (wholeE C p q ma mb mc md).1]) := by
 refine cc_enter (c := c61) (n := 54) Tryz.func61 rfl rfl rfl (by kernel_rfl) rfl rfl ?_
 have hl := Hold.start S
 refine xs (by kernel_rfl) ?_; refine re_boxL hl rfl rfl rfl rfl rfl rfl ?_; intro B7 S7 hl; refine re_allocL hl rfl rfl rfl rfl rfl (z := [.int .i64 0, .int .i64 0, .int .i64 0, .int .i64 0, .int .i64 0, .int .i64 0, .int .i64 0, .int .i64 0]) (by kernel_rfl) ?_; intro B8 S8 hl; refine rm rfl ?_; refine re_end rfl ?_; refine xs (by kernel_rfl) ?_; refine rr rfl (rd_load rfl rfl (loadN_of (z := 4) (by kernel_rfl) (by kernel_rfl) (hl.get 1 rfl) rfl)) ?_; refine rr rfl (rd_build rfl rfl (v := aggL (secCells (-1) 0 ma mb mc md)) (by rfl)) ?_
 refine re_allocL hl rfl rfl rfl rfl rfl (z := [.int .i64 0, .int .i64 0, .int .i64 0, .int .i64 0, .int .i64 0, .int .i64 0, .int .i64 0, .int .i64 0]) (by kernel_rfl) ?_; intro B10 S10 hl; refine re_storeL hl 0 rfl rfl rfl rfl rfl rfl rfl (by kernel_rfl) rfl ?_; intro S1 hl; refine re_end rfl ?_; refine xp_seq rfl ?_; refine xs (by kernel_rfl) ?_; iterate 2 refine rm rfl ?_
 refine re_end rfl ?_; refine xp_block rfl ?_
 -- LOOP
 refine xe_sub (L' := [(11, .int .i64 p), (10, ptrTo B10 0), (9, .int .i64 0), (8, ptrTo B8 0), (7, ptrTo B7 0), (0, .slice a C.length cap), (2, .int .i64 q)]) ⟨rfl, rfl, rfl, rfl, rfl, rfl, rfl, trivial⟩ ?_
 refine xp_loop rfl (fun m Le S' => ∃ (i : Nat) (f g : Int), p ≤ i ∧ i ≤ q ∧ m = q - i ∧ SubE [(11, .int .i64 (i : Int)), (10, ptrTo B10 0), (9, .int .i64 0), (8, ptrTo B8 0), (7, ptrTo B7 0), (0, .slice a C.length cap), (2, .int .i64 q)] Le ∧ scanN (q - i) C i f g = scanN (q - p) C p (-1) 0 ∧ HoldG S [S] S' [(B10, .cells (secCells f g ma mb mc md) 84 false true []), (B8, .cells [.int .i64 0, .int .i64 0, .int .i64 0, .int .i64 0, .int .i64 0, .int .i64 0, .int .i64 0, .int .i64 0] 84 false true []), (B7, .cells [.int .i64 ma, .int .i64 mb, .int .i64 mc, .int .i64 md] 59 false true [])] []) ?_ (m := q - p) ⟨p, -1, 0, Nat.le_refl _, hpq, rfl, ⟨rfl, rfl, rfl, rfl, rfl, rfl, rfl, trivial⟩, rfl, hl⟩
 clear hl; rintro m Le S' ⟨i, f, g, hpi, hi, rfl, hsub, hpr, hl⟩; refine xe_sub hsub ?_
 refine xp_seq rfl ?_; refine xs (by kernel_rfl) ?_; iterate 2 refine rm rfl ?_
 refine rr rfl (rd_bin rfl rfl rfl rfl) ?_; refine re_end rfl ?_; refine xp_cond rfl rfl (fun h17 => ?_) (fun h17 => ?_)
 ·
  have hlt : i < q := by have := of_decide_eq_true h17; omega
  obtain ⟨b, o, cs, rfl, hrow, hall⟩ := hv.row (by omega)
  have hqi : q - i = (q - (i + 1)) + 1 := by omega
  refine xp_skip rfl ?_; refine xp_seq rfl ?_; refine xp_block rfl ?_; refine xs (by kernel_rfl) ?_; iterate 2 refine rm rfl ?_
  refine rr rfl (rd_indexAddr rfl rfl rfl (indexAddr_slice (z := 17) Tryz.underlying22 (by kernel_rfl) ⟨by first | omega | (simp at *; omega), by first | omega | (simp at *; omega)⟩)) ?_; refine rr rfl (rd_load rfl rfl (loadN_row (z := 17) (by kernel_rfl) (by kernel_rfl) (row_move (hl.since 0 rfl) hrow) (hall _ (by first | omega | (simp at *; omega)) (by first | omega | (simp at *; omega))))) ?_
  refine re_callL hl rfl rfl rfl rfl rfl rfl rfl (spec60 (sgI C i)) ?_; rintro v S1 hk1 rfl hl
  refine re_end rfl ?_; refine xp_block rfl ?_; refine xs (by kernel_rfl) ?_; refine rr rfl (rd_bin rfl rfl rfl rfl) ?_; refine rm rfl ?_; refine re_end rfl ?_; refine xp_cond rfl rfl (fun h25 => ?_) (fun h25 => ?_)
  ·
   refine xp_seq rfl (xe_to0 (fun S' => HoldG S [S] S' [(B10, .cells (secCells (bif decide (f < 0) then (i : Int) else f) g ma mb mc md) 84 false true []), (B8, .cells [.int .i64 0, .int .i64 0, .int .i64 0, .int .i64 0, .int .i64 0, .int .i64 0, .int .i64 0, .int .i64 0] 84 false true []), (B7, .cells [.int .i64 ma, .int .i64 mb, .int .i64 mc, .int .i64 md] 59 false true [])] []) ?_ ?_)
   ·
    refine xs (by kernel_rfl) ?_; refine rr rfl (rd_fieldAddr rfl rfl (fa Tryz.underlying84 az84 rfl)) ?_; refine rr rfl (rl hl 0 rfl rfl (by kernel_rfl) rfl rfl) ?_; refine rr rfl (rd_bin rfl rfl rfl rfl) ?_; refine re_end rfl ?_; refine xp_cond rfl rfl (fun h29 => ?_) (fun h29 => ?_)
    ·
     refine xg (by kernel_rfl) ?_; refine rm rfl ?_; refine rr rfl (rd_fieldAddr rfl rfl (fa Tryz.underlying84 az84 rfl)) ?_; refine re_storeL hl 0 rfl rfl rfl rfl rfl rfl rfl (by kernel_rfl) rfl ?_; intro S1 hl; refine re_end rfl ?_
     exact ⟨rfl, by repeat (first | exact subL_refl _ | refine subL_skip rfl ?_), by rw [h29]; exact hl⟩
    ·
     refine xp_skip rfl ?_
     exact ⟨rfl, by repeat (first | exact subL_refl _ | refine subL_skip rfl ?_), by rw [h29]; exact hl⟩
   intro S1 hl
   refine xg (by kernel_rfl) ?_; refine rm rfl ?_; refine rr rfl (rd_bin rfl rfl rfl (i6 (by first | omega | (simp at *; omega)))) ?_; refine rr rfl (rd_fieldAddr rfl rfl (fa Tryz.underlying84 az84 rfl)) ?_; refine re_storeL hl 0 rfl rfl rfl rfl rfl rfl rfl (by kernel_rfl) rfl ?_; intro S1 hl; refine re_end rfl ?_; refine xg (by kernel_rfl) ?_; refine rm rfl ?_; refine rr rfl (rd_bin rfl rfl rfl (i6 (by first | omega | (simp at *; omega)))) ?_; refine rm rfl ?_; refine re_end rfl ?_
   exact ⟨q - (i + 1), by omega, i + 1, (bif decide (f < 0) then (i : Int) else f), (i : Int) + 1, by omega, by omega, rfl, ⟨rfl, rfl, rfl, rfl, rfl, rfl, rfl, trivial⟩, by rw [← hpr, hqi, scan_1 h25]; rfl, hl⟩
  ·
   refine xs (by kernel_rfl) ?_; refine rr rfl (rd_bin rfl rfl rfl rfl) ?_; refine rm rfl ?_; refine re_end rfl ?_; refine xp_cond rfl rfl (fun h35 => ?_) (fun h35 => ?_)
   ·
    refine xp_seq rfl ?_; refine xs (by kernel_rfl) ?_; refine rr rfl (rd_fieldAddr rfl rfl (fa Tryz.underlying84 az84 rfl)) ?_; refine rr rfl (rl hl 0 rfl rfl (by kernel_rfl) rfl rfl) ?_; refine rr rfl (rd_bin rfl rfl rfl rfl) ?_; refine re_end rfl ?_; refine xp_cond rfl rfl (fun h39 => ?_) (fun h39 => ?_)
    ·
     refine xs (by kernel_rfl) ?_; refine rr rfl (rd_load rfl rfl (loadN_of (z := 8) (by kernel_rfl) (by kernel_rfl) (hl.get 0 rfl) rfl)) ?_; refine re_storeL hl 1 rfl rfl rfl rfl rfl rfl rfl (by kernel_rfl) rfl ?_; intro S1 hl; refine rm rfl ?_; refine re_end rfl ?_; refine xp_ret rfl ?_
     refine thn_ret (blk_ret (blk_ret (thn_ret (round_ret (blk_ret (thn_ret (done_ret (ress_cell rfl (loadN_of (z := 8) (by kernel_rfl) (by kernel_rfl) (hl.get 1 rfl) rfl) (ress_tmp rfl rfl)) ⟨hl.keep, by
   have e : scanN (q - p) C p (-1) 0 = (13, f, g) := by rw [← hpr, hqi, scan_2 h25 h35 h39]
   unfold wholeE; rw [e]; rfl⟩)))))))
    ·
     refine xp_skip rfl ?_; refine xg (by kernel_rfl) ?_; refine rm rfl ?_; refine rr rfl (rd_bin rfl rfl rfl (i6 (by first | omega | (simp at *; omega)))) ?_; refine rr rfl (rd_fieldAddr rfl rfl (fa Tryz.underlying84 az84 rfl)) ?_; refine re_storeL hl 0 rfl rfl rfl rfl rfl rfl rfl (by kernel_rfl) rfl ?_; intro S1 hl; refine re_end rfl ?_; refine xg (by kernel_rfl) ?_; refine rm rfl ?_; refine rr rfl (rd_bin rfl rfl rfl (i6 (by first | omega | (simp at *; omega)))) ?_; refine rm rfl ?_; refine re_end rfl ?_
     exact ⟨q - (i + 1), by omega, i + 1, f, (i : Int) + 1, by omega, by omega, rfl, ⟨rfl, rfl, rfl, rfl, rfl, rfl, rfl, trivial⟩, by rw [← hpr, hqi, scan_3 h25 h35 h39]; rfl, hl⟩
   ·
    refine xp_skip rfl ?_; refine xg (by kernel_rfl) ?_; refine rm rfl ?_; refine rr rfl (rd_bin rfl rfl rfl (i6 (by first | omega | (simp at *; omega)))) ?_; refine rm rfl ?_; refine re_end rfl ?_
    exact ⟨q - (i + 1), by omega, i + 1, f, g, by omega, by omega, rfl, ⟨rfl, rfl, rfl, rfl, rfl, rfl, rfl, trivial⟩, by rw [← hpr, hqi, scan_4 h25 h35]; rfl, hl⟩
 ·
  refine xp_exit rfl ?_; refine xp_seq rfl ?_; refine xp_seq rfl (xe_toE hl 51 (.bool (decide (f ≥ 0) && noM ma mb mc md)) ?_ rfl ?_)
  ·
   refine xg (by kernel_rfl) ?_; refine rr rfl (rd_fieldAddr rfl rfl (fa Tryz.underlying84 az84 rfl)) ?_; refine rr rfl (rl hl 0 rfl rfl (by kernel_rfl) rfl rfl) ?_; refine rr rfl (rd_bin rfl rfl rfl rfl) ?_; refine rm rfl ?_; refine re_bool (d := 47) rfl (fun h47 => ?_) (fun h47 => ?_)
   ·
    refine rr rfl (rd_load rfl rfl (loadN_of (z := 4) (by kernel_rfl) (by kernel_rfl) (hl.get 2 rfl) rfl)) ?_; refine rr rfl (rd_build rfl rfl (v := aggL [.int .i64 0, .int .i64 0, .int .i64 0, .int .i64 0]) (by rfl)) ?_; refine rr rfl (rd_bin rfl rfl rfl (bin_eq (by kernel_rfl) (eqMens _ ma mb mc md 0 0 0 0))) ?_; refine rm rfl ?_; refine re_end rfl ?_
    exact ⟨rfl, bl (by unfold noM; simp only [h47, BLs]), by repeat (first | exact subL_refl _ | refine subL_skip rfl ?_), hl⟩
   ·
    iterate 3 refine rz rfl ?_
    refine rm rfl ?_; refine re_end rfl ?_
    exact ⟨rfl, bl (by unfold noM; simp only [h47, BLs]), by repeat (first | exact subL_refl _ | refine subL_skip rfl ?_), hl⟩
  intro S1 hl
  refine xp_cond rfl rfl (fun h51 => ?_) (fun h51 => ?_)
  ·
   refine xs (by kernel_rfl) ?_; refine rr rfl (rd_load rfl rfl (loadN_of (z := 8) (by kernel_rfl) (by kernel_rfl) (hl.get 0 rfl) rfl)) ?_; refine re_storeL hl 1 rfl rfl rfl rfl rfl rfl rfl (by kernel_rfl) rfl ?_; intro S1 hl; refine rm rfl ?_; refine re_end rfl ?_; refine xp_ret rfl ?_
   refine thn_ret (done_ret (ress_cell rfl (loadN_of (z := 8) (by kernel_rfl) (by kernel_rfl) (hl.get 1 rfl) rfl) (ress_tmp rfl rfl)) ⟨hl.keep, by
   have e : scanN (q - p) C p (-1) 0 = (0, f, g) := by rw [← hpr, show q - i = 0 by have := of_decide_eq_false h17; omega]; rfl
   unfold wholeE; rw [e]; simp only [bne_self_eq_false, cond_false, h51, cond_true]; rfl⟩)
  ·
   refine xp_skip rfl ?_; refine xs (by kernel_rfl) ?_; refine rr rfl (rd_load rfl rfl (loadN_of (z := 8) (by kernel_rfl) (by kernel_rfl) (hl.get 0 rfl) rfl)) ?_; refine re_storeL hl 1 rfl rfl rfl rfl rfl rfl rfl (by kernel_rfl) rfl ?_; intro S1 hl; refine rm rfl ?_; refine re_end rfl ?_; refine xp_ret rfl ?_
   refine done_ret (ress_cell rfl (loadN_of (z := 8) (by kernel_rfl) (by kernel_rfl) (hl.get 1 rfl) rfl) (ress_tmp rfl rfl)) ⟨hl.keep, by
   have e : scanN (q - p) C p (-1) 0 = (0, f, g) := by rw [← hpr, show q - i = 0 by have := of_decide_eq_false h17; omega]; rfl
   unfold wholeE; rw [e]; simp only [bne_self_eq_false, cond_false, h51, cond_true]; rfl⟩
end Go.Proofs.YtkmhecihkckcmaaGreatDoor
namespace Go.Proofs.YtkmhecihkckcmaaGreatDoor
open Go.Cm Go
set_option maxRecDepth 100000
variable {S : St}
def madeN : Nat → List Sg → Nat → Nat → Int → Int → Int → Int → Int
 | 0, _, _, _, _, _, _, _ => 0
 | n + 1, C, i, p, a, b, c, d => bif decide ((i : Int) < C.length) && (classI (sgI C (i : Nat)).kind != 3) then madeN n C (i + 1) p a b c d
  else bif (wholeE C p i a b c d).1 != 0 then (wholeE C p i a b c d).1
  else bif decide ((i : Int) < C.length) && ((sgI C (i : Nat)).kind == 5) then madeN n C (i + 1) (i + 1) (sgI C (i : Nat)).mx (sgI C (i : Nat)).md (sgI C (i : Nat)).tm (sgI C (i : Nat)).pr
  else madeN n C (i + 1) (i + 1) a b c d
def madeE (C : List Sg) : Int := madeN (C.length + 1) C 0 0 0 0 0 0
theorem tk_sub {z o j m : Nat} {c l l2 : List Value} (h : takeN z (dropN o c) = some l) (hj : takeN m (dropN j l) = some l2) : takeN m (dropN (o + j) c) = some l2 := by
 have a1 := takeN_spec _ _ _ h
 have a2 := takeN_spec _ _ _ hj
 rw [dropN_eq] at a1 a2
 obtain ⟨b1, b2, b3⟩ := a1
 obtain ⟨_, c2, c3⟩ := a2
 rw [List.length_drop] at b2 c2
 rw [dropN_eq, ← List.drop_drop]
 by_cases hm : m = 0
 ·subst hm
  rw [c3]
  rw [takeN_some _ _ (Nat.zero_le _)]
  simp
 ·rw [takeN_some _ _ (by rw [List.length_drop, List.length_drop]; omega), c3, b3, List.drop_take, List.take_take, Nat.min_eq_left (by omega)]
theorem made_res {C : List Sg} {e : Int} {w : Value} (h : e = madeE C) : ∃ w', tupV [w, .int .i64 e] = tupV [w', .int .i64 (madeE C)] := ⟨w, by rw [h]⟩
noncomputable def c50 : Code := Tryz.f50.body.getD .skip
theorem spec50 (nm : ByteArray) (a : Option Addr) (cap : Nat) (C : List Sg) (hn : C.length ≤ 1000) (hv : Signs S (.slice a C.length cap) C) : CC Tryz.prog KK 50 [aggL [.string nm, .slice a C.length cap]] S (fun v S' => Keep S S' ∧ (∃ w, v = tupV [w, .int .i64 (madeE C)])) := by
 refine cc_enter (c := c50) (n := 73) Tryz.func50 rfl rfl rfl (by kernel_rfl) rfl rfl ?_
 have hl := Hold.start S
 refine xs (by kernel_rfl) ?_; refine re_boxL hl rfl rfl rfl rfl rfl rfl ?_; intro B1 S1 hl; iterate 2 refine rm rfl ?_
 refine re_end rfl ?_; refine xs (by kernel_rfl) ?_; refine rm rfl ?_; refine re_end rfl ?_; refine xs (by kernel_rfl) ?_; refine re_allocL hl rfl rfl rfl rfl rfl (z := [.int .i64 0, .int .i64 0, .int .i64 0, .int .i64 0]) (by kernel_rfl) ?_; intro B5 S5 hl; refine re_end rfl ?_; refine xs (by kernel_rfl) ?_; refine rm rfl ?_; refine re_end rfl ?_; refine xp_seq rfl ?_; refine xs (by kernel_rfl) ?_; refine rm rfl ?_; refine re_end rfl ?_; refine xp_block rfl ?_
 -- LOOP
 have hl := hl.addG (g := ⟨.slice none 0 0, 84, 8, [], 0⟩) (.inl ⟨rfl, rfl, rfl⟩)
 refine xe_sub (L' := [(7, .int .i64 0), (6, .int .i64 0), (5, ptrTo B5 0), (4, .slice none ([] : List (List Value)).length ([] : List (List Value)).length), (3, .int .i64 0), (1, ptrTo B1 0)]) ⟨rfl, rfl, rfl, rfl, rfl, rfl, trivial⟩ ?_
 refine xp_loop rfl (fun m Le S' => ∃ (i p : Nat) (ma mb mc md : Int) (av : Option Addr) (D : List (List Value)), i ≤ C.length + 1 ∧ p ≤ i ∧ D.length ≤ i ∧ m = C.length + 1 - i ∧ SubE [(7, .int .i64 (i : Int)), (6, .int .i64 (p : Int)), (5, ptrTo B5 0), (4, .slice av D.length D.length), (3, .int .i64 0), (1, ptrTo B1 0)] Le ∧ madeN (C.length + 1 - i) C i p ma mb mc md = madeE C ∧ HoldG S [S] S' [(B5, .cells [.int .i64 ma, .int .i64 mb, .int .i64 mc, .int .i64 md] 59 false true []), (B1, .cells [.string nm, .slice a C.length cap] 24 false true [])] [⟨.slice av D.length D.length, 84, 8, D.flatten, D.length⟩]) ?_ (m := C.length + 1) ⟨0, 0, 0, 0, 0, 0, none, [], by omega, by omega, by simp, by omega, ⟨rfl, rfl, rfl, rfl, rfl, rfl, trivial⟩, rfl, hl⟩
 clear hl; rintro m Le S' ⟨i, p, ma, mb, mc, md, av, D, hi, hpi, hD, rfl, hsub, hpr, hl⟩; refine xe_sub hsub ?_
 refine xp_seq rfl ?_; refine xs (by kernel_rfl) ?_; refine rm rfl ?_; refine rr rfl (rd_fieldAddr rfl rfl (fa Tryz.underlying24 az24 rfl)) ?_; refine rr rfl (rl hl 1 rfl rfl (by kernel_rfl) rfl rfl) ?_; refine rr rfl (rd_len rfl rfl (len_slice Tryz.underlying22)) ?_; refine rr rfl (rd_bin rfl rfl rfl rfl) ?_; refine re_end rfl ?_; refine xp_cond rfl rfl (fun h14 => ?_) (fun h14 => ?_)
 ·
  have hle : i ≤ C.length := by have := of_decide_eq_true h14; omega
  have hqi : C.length + 1 - i = (C.length + 1 - (i + 1)) + 1 := by omega
  refine xp_skip rfl ?_; refine xp_seq rfl ?_; refine xp_block rfl ?_; refine xp_seq rfl ?_; refine xp_seq rfl (xe_toE hl 30 (.bool (decide ((i : Int) < C.length) && (classI (sgI C (i : Nat)).kind != 3))) ?_ rfl ?_)
  ·
   refine xg (by kernel_rfl) ?_; refine rm rfl ?_; refine rr rfl (rd_fieldAddr rfl rfl (fa Tryz.underlying24 az24 rfl)) ?_; refine rr rfl (rl hl 1 rfl rfl (by kernel_rfl) rfl rfl) ?_; refine rr rfl (rd_len rfl rfl (len_slice Tryz.underlying22)) ?_; refine rr rfl (rd_bin rfl rfl rfl rfl) ?_; refine rm rfl ?_; refine re_bool (d := 22) rfl (fun h22 => ?_) (fun h22 => ?_)
   ·
    obtain ⟨b, o, cs, rfl, hrow, hall⟩ := hv.row (by simp at h22; omega)
    refine rr rfl (rd_fieldAddr rfl rfl (fa Tryz.underlying24 az24 rfl)) ?_; refine rr rfl (rl hl 1 rfl rfl (by kernel_rfl) rfl rfl) ?_; refine rm rfl ?_; refine rr rfl (rd_indexAddr rfl rfl rfl (indexAddr_slice (z := 17) Tryz.underlying22 (by kernel_rfl) ⟨by first | omega | (simp at *; omega), by first | omega | (simp at *; omega)⟩)) ?_; refine rr rfl (rd_load rfl rfl (loadN_row (z := 17) (by kernel_rfl) (by kernel_rfl) (row_move (hl.since 0 rfl) hrow) (hall _ (by first | omega | (simp at *; omega)) (by first | omega | (simp at *; omega))))) ?_
    refine re_callL hl rfl rfl rfl rfl rfl rfl rfl (spec60 (sgI C (i : Nat))) ?_; rintro v S1 hk1 rfl hl
    refine rr rfl (rd_bin rfl rfl rfl rfl) ?_; refine rm rfl ?_; refine re_end rfl ?_
    exact ⟨rfl, bl (by first | (simp [h22]; done) | (simp only [h22, BLs])), by repeat (first | exact subL_refl _ | refine subL_skip rfl ?_), hl⟩
   ·
    iterate 7 refine rz rfl ?_
    refine rm rfl ?_; refine re_end rfl ?_
    exact ⟨rfl, bl (by first | (simp [h22]; done) | (simp only [h22, BLs])), by repeat (first | exact subL_refl _ | refine subL_skip rfl ?_), hl⟩
  intro S1 hl
  refine xp_cond rfl rfl (fun h30 => ?_) (fun h30 => ?_)
  ·
   refine xp_exit rfl ?_; refine xg (by kernel_rfl) ?_; refine rm rfl ?_; refine rr rfl (rd_bin rfl rfl rfl (i6 (by first | omega | (simp at *; omega)))) ?_; refine rm rfl ?_; refine re_end rfl ?_
   refine ⟨C.length + 1 - (i + 1), by omega, i + 1, p, ma, mb, mc, md, av, D, by omega, by omega, by omega, rfl, ⟨rfl, rfl, rfl, rfl, rfl, rfl, trivial⟩, ?_, hl⟩
   rw [← hpr, hqi, madeN, h30]; rfl
  ·
   refine xp_skip rfl ?_; refine xs (by kernel_rfl) ?_; refine rr rfl (rd_fieldAddr rfl rfl (fa Tryz.underlying24 az24 rfl)) ?_; refine rr rfl (rl hl 1 rfl rfl (by kernel_rfl) rfl rfl) ?_; iterate 2 refine rm rfl ?_
   refine rr rfl (rd_load rfl rfl (loadN_of (z := 4) (by kernel_rfl) (by kernel_rfl) (hl.get 0 rfl) rfl)) ?_
   refine re_callL hl rfl rfl rfl rfl rfl rfl rfl (spec61 a cap C p i ma mb mc md hn hpi hle (hv.move (hl.since 0 rfl))) ?_; rintro v S1 hk1 rfl hl
   iterate 3 refine rm rfl ?_
   refine re_allocL hl rfl rfl rfl rfl rfl (z := [.int .i64 0, .int .i64 0, .int .i64 0, .int .i64 0, .int .i64 0, .int .i64 0, .int .i64 0, .int .i64 0]) (by kernel_rfl) ?_; intro B8 S8 hl; refine re_storeL hl 0 rfl rfl rfl rfl rfl rfl rfl (by kernel_rfl) rfl ?_; intro S1 hl; refine rm rfl ?_; refine re_end rfl ?_; refine xp_seq rfl ?_; refine xs (by kernel_rfl) ?_; refine rm rfl ?_; refine rr rfl (rd_bin rfl rfl rfl rfl) ?_; refine re_end rfl ?_; refine xp_cond rfl rfl (fun h41 => ?_) (fun h41 => ?_)
   ·
    refine xs (by kernel_rfl) ?_; iterate 3 refine rm rfl ?_
    refine re_end rfl ?_; refine xp_ret rfl ?_
    refine thn_ret (blk_ret (thn_ret (round_ret (blk_ret (thn_ret (done_ret (ress_tmp rfl (ress_tmp rfl rfl)) ⟨hl.keep, made_res (by rw [← hpr, hqi, madeN, h30, h41]; rfl)⟩))))))
   ·
    refine xp_skip rfl ?_
    refine xp_seq rfl (xe_cut (fun Le S' => ∃ (av2 : Option Addr) (D2 : List (List Value)), D2.length ≤ i + 1 ∧ SubE [(7, .int .i64 (i : Int)), (6, .int .i64 (p : Int)), (5, ptrTo B5 0), (4, .slice av2 D2.length D2.length), (3, .int .i64 0), (1, ptrTo B1 0)] Le ∧ HoldG S [S] S' [(B8, .cells (secCells (wholeE C p i ma mb mc md).2.1 (wholeE C p i ma mb mc md).2.2 ma mb mc md) 84 false true []), (B5, .cells [.int .i64 ma, .int .i64 mb, .int .i64 mc, .int .i64 md] 59 false true []), (B1, .cells [.string nm, .slice a C.length cap] 24 false true [])] [⟨.slice av2 D2.length D2.length, 84, 8, D2.flatten, D2.length⟩]) ?_ ?_)
    ·
     refine xs (by kernel_rfl) ?_; refine rr rfl (rd_fieldAddr rfl rfl (fa Tryz.underlying84 az84 rfl)) ?_; refine rr rfl (rl hl 0 rfl rfl (by kernel_rfl) rfl rfl) ?_; refine rr rfl (rd_bin rfl rfl rfl rfl) ?_; refine re_end rfl ?_; refine xp_cond rfl rfl (fun h45 => ?_) (fun h45 => ?_)
     ·
      refine xg (by kernel_rfl) ?_; refine rm rfl ?_; refine rr rfl (rd_load rfl rfl (loadN_of (z := 8) (by kernel_rfl) (by kernel_rfl) (hl.get 0 rfl) rfl)) ?_; refine re_buildSliceR hl rfl rfl rfl rfl rfl Tryz.underlying50 rfl (c := (secCells (wholeE C p i ma mb mc md).2.1 (wholeE C p i ma mb mc md).2.2 ma mb mc md)) (by kernel_rfl) ?_; intro B48 S1 hr48 hl
      refine re_appendG hl 0 rfl rfl (by simp) rfl rfl rfl rfl rfl rfl rfl Tryz.underlying50 Tryz.underlying50 rfl rfl (by kernel_rfl) (src_row (new := (secCells (wholeE C p i ma mb mc md).2.1 (wholeE C p i ma mb mc md).2.2 ma mb mc md)) hr48 rfl) rfl rfl (by kernel_rfl) (by show D.length + 1 ≤ maxNeed; unfold maxNeed; omega) ?_; intro v49 S1 hl; refine rm rfl ?_; refine re_end rfl ?_
      obtain ⟨av2, rfl⟩ : ∃ av2, v49 = .slice av2 (D.length + 1) (D.length + 1) := Grow.is (hl.gr _ (List.mem_cons_self ..))
      have eD : (D ++ [(secCells (wholeE C p i ma mb mc md).2.1 (wholeE C p i ma mb mc md).2.2 ma mb mc md)]).length = D.length + 1 := by simp
      have eF : (D ++ [(secCells (wholeE C p i ma mb mc md).2.1 (wholeE C p i ma mb mc md).2.2 ma mb mc md)]).flatten = D.flatten ++ (secCells (wholeE C p i ma mb mc md).2.1 (wholeE C p i ma mb mc md).2.2 ma mb mc md) := by simp
      refine ⟨rfl, av2, D ++ [(secCells (wholeE C p i ma mb mc md).2.1 (wholeE C p i ma mb mc md).2.2 ma mb mc md)], by rw [eD]; omega, ?_⟩
      rw [eD, eF]
      exact ⟨⟨rfl, rfl, rfl, rfl, rfl, rfl, trivial⟩, hl⟩
     ·
      refine xp_skip rfl ?_
      exact ⟨rfl, av, D, by omega, ⟨rfl, rfl, rfl, rfl, rfl, rfl, trivial⟩, hl⟩
    rintro Le S1 ⟨av2, D2, hD2, hsub2, hl⟩; refine xe_sub hsub2 ?_
    refine xp_seq rfl (xe_to0 (fun S' => HoldG S [S] S' [(B8, .cells (secCells (wholeE C p i ma mb mc md).2.1 (wholeE C p i ma mb mc md).2.2 ma mb mc md) 84 false true []), (B5, .cells (bif (decide ((i : Int) < C.length) && ((sgI C (i : Nat)).kind == 5)) then [.int .i64 (sgI C (i : Nat)).mx, .int .i64 (sgI C (i : Nat)).md, .int .i64 (sgI C (i : Nat)).tm, .int .i64 (sgI C (i : Nat)).pr] else [.int .i64 ma, .int .i64 mb, .int .i64 mc, .int .i64 md]) 59 false true []), (B1, .cells [.string nm, .slice a C.length cap] 24 false true [])] [⟨.slice av2 D2.length D2.length, 84, 8, D2.flatten, D2.length⟩]) ?_ ?_)
    ·
     refine xp_seq rfl (xe_toE hl 63 (.bool (decide ((i : Int) < C.length) && ((sgI C (i : Nat)).kind == 5))) ?_ rfl ?_)
     ·
      refine xg (by kernel_rfl) ?_; refine rm rfl ?_; refine rr rfl (rd_fieldAddr rfl rfl (fa Tryz.underlying24 az24 rfl)) ?_; refine rr rfl (rl hl 2 rfl rfl (by kernel_rfl) rfl rfl) ?_; refine rr rfl (rd_len rfl rfl (len_slice Tryz.underlying22)) ?_; refine rr rfl (rd_bin rfl rfl rfl rfl) ?_; refine rm rfl ?_; refine re_bool (d := 55) rfl (fun h55 => ?_) (fun h55 => ?_)
      ·
       obtain ⟨b, o, cs, rfl, hrow, hall⟩ := hv.row (by simp at h55; omega)
       refine rr rfl (rd_fieldAddr rfl rfl (fa Tryz.underlying24 az24 rfl)) ?_; refine rr rfl (rl hl 2 rfl rfl (by kernel_rfl) rfl rfl) ?_; refine rm rfl ?_; refine rr rfl (rd_indexAddr rfl rfl rfl (indexAddr_slice (z := 17) Tryz.underlying22 (by kernel_rfl) ⟨by first | omega | (simp at *; omega), by first | omega | (simp at *; omega)⟩)) ?_; refine rr rfl (rd_fieldAddr rfl rfl (fa Tryz.underlying63 az63 rfl)) ?_
       refine rr rfl (rd_load rfl rfl (load1_row (by kernel_rfl) (row_move (hl.since 0 rfl) hrow) (tk_nth (hall _ (by first | omega | (simp at *; omega)) (by first | omega | (simp at *; omega))) rfl))) ?_; refine rr rfl (rd_bin rfl rfl rfl rfl) ?_; refine rm rfl ?_; refine re_end rfl ?_
       exact ⟨rfl, bl (by first | (simp [h55]; done) | (simp only [h55, BLs])), by repeat (first | exact subL_refl _ | refine subL_skip rfl ?_), hl⟩
      ·
       iterate 7 refine rz rfl ?_
       refine rm rfl ?_; refine re_end rfl ?_
       exact ⟨rfl, bl (by first | (simp [h55]; done) | (simp only [h55, BLs])), by repeat (first | exact subL_refl _ | refine subL_skip rfl ?_), hl⟩
     intro S1 hl
     refine xp_cond rfl rfl (fun h63 => ?_) (fun h63 => ?_)
     ·
      obtain ⟨b, o, cs, rfl, hrow, hall⟩ := hv.row (by simp at h63; omega)
      have hlt : i < C.length := by simp at h63; omega
      refine xg (by kernel_rfl) ?_; refine rr rfl (rd_fieldAddr rfl rfl (fa Tryz.underlying24 az24 rfl)) ?_; refine rr rfl (rl hl 2 rfl rfl (by kernel_rfl) rfl rfl) ?_; refine rm rfl ?_; refine rr rfl (rd_indexAddr rfl rfl rfl (indexAddr_slice (z := 17) Tryz.underlying22 (by kernel_rfl) ⟨by first | omega | (simp at *; omega), by first | omega | (simp at *; omega)⟩)) ?_; refine rr rfl (rd_fieldAddr rfl rfl (fa Tryz.underlying63 az63 rfl)) ?_
      refine rr rfl (rd_load rfl rfl (loadN_row (z := 4) (by kernel_rfl) (by kernel_rfl) (row_move (hl.since 0 rfl) hrow) (tk_sub (l2 := [.int .i64 (sgI C (i : Nat)).mx, .int .i64 (sgI C (i : Nat)).md, .int .i64 (sgI C (i : Nat)).tm, .int .i64 (sgI C (i : Nat)).pr]) (hall (i : Nat) (by omega) (by omega)) rfl))) ?_; refine re_storeL hl 1 rfl rfl rfl rfl rfl rfl rfl (by kernel_rfl) rfl ?_; intro S1 hl; refine re_end rfl ?_
      exact ⟨rfl, by repeat (first | exact subL_refl _ | refine subL_skip rfl ?_), by rw [h63]; exact hl⟩
     ·
      refine xp_skip rfl ?_
      exact ⟨rfl, by repeat (first | exact subL_refl _ | refine subL_skip rfl ?_), by rw [h63]; exact hl⟩
    intro S1 hl
    refine xg (by kernel_rfl) ?_; refine rm rfl ?_; refine rr rfl (rd_bin rfl rfl rfl (i6 (by first | omega | (simp at *; omega)))) ?_; refine rm rfl ?_; refine re_end rfl ?_; refine xg (by kernel_rfl) ?_; refine rm rfl ?_; refine rr rfl (rd_bin rfl rfl rfl (i6 (by first | omega | (simp at *; omega)))) ?_; refine rm rfl ?_; refine re_end rfl ?_
    have hl := hl.sub (l' := [(B5, .cells (bif (decide ((i : Int) < C.length) && ((sgI C (i : Nat)).kind == 5)) then [.int .i64 (sgI C (i : Nat)).mx, .int .i64 (sgI C (i : Nat)).md, .int .i64 (sgI C (i : Nat)).tm, .int .i64 (sgI C (i : Nat)).pr] else [.int .i64 ma, .int .i64 mb, .int .i64 mc, .int .i64 md]) 59 false true []), (B1, .cells [.string nm, .slice a C.length cap] 24 false true [])]) (List.sublist_cons_self _ _)
    cases h63 : (decide ((i : Int) < C.length) && ((sgI C (i : Nat)).kind == 5)) with
    | true =>
     rw [h63] at hl
     refine ⟨C.length + 1 - (i + 1), by omega, i + 1, i + 1, _, _, _, _, av2, D2, by omega, by omega, hD2, rfl, ⟨rfl, rfl, rfl, rfl, rfl, rfl, trivial⟩, ?_, hl⟩
     rw [← hpr, hqi, madeN, h30, h41, h63]; rfl
    | false =>
     rw [h63] at hl
     refine ⟨C.length + 1 - (i + 1), by omega, i + 1, i + 1, ma, mb, mc, md, av2, D2, by omega, by omega, hD2, rfl, ⟨rfl, rfl, rfl, rfl, rfl, rfl, trivial⟩, ?_, hl⟩
     rw [← hpr, hqi, madeN, h30, h41, h63]; rfl
 ·
  refine xp_exit rfl ?_; refine xs (by kernel_rfl) ?_; iterate 3 refine rm rfl ?_
  refine re_end rfl ?_; refine xp_ret rfl ?_
  refine done_ret (ress_tmp rfl (ress_tmp rfl rfl)) ⟨hl.keep, made_res (by rw [← hpr, show C.length + 1 - i = 0 by have := of_decide_eq_false h14; omega]; rfl)⟩
end Go.Proofs.YtkmhecihkckcmaaGreatDoor
namespace Go.Proofs.YtkmhecihkckcmaaGreatDoor
open Go.Cm Go
set_option maxRecDepth 100000
variable {S : St}
theorem sgI_some {C : List Sg} {i : Nat} (h : i < C.length) : nth C i = some (sgI C (i : Nat)) := by
 obtain ⟨s, hs⟩ := nth_some h
 rw [hs, sgI_at hs]
theorem runE_ok : ∀ (r : List Sg) (b : Bool) (i : Nat), (runE b r i).1 = 0 → ∀ j s, nth r j = some s → one s = 0 ∧ (s.kind = 4 → s.last = false → ∃ s2, nth r (j + 1) = some s2 ∧ s2.kind = 4)
 | [], _, _, _, j, s, hs => by cases j <;> cases hs
 | x :: r, b, i, h, j, s, hs => by
  cases h1 : (one x != 0) with
  | true =>
   rw [runE, h1] at h
   have h' : one x = 0 := h
   rw [h'] at h1; cases h1
  | false =>
   have ho : one x = 0 := by simpa using h1
   have hh : ∀ b', (runE b' r (i + 1)).1 = 0 → (x.kind = 4 → x.last = false → nextT r = true) → one s = 0 ∧ (s.kind = 4 → s.last = false → ∃ s2, nth (x :: r) (j + 1) = some s2 ∧ s2.kind = 4) := by
    intro b' hb hn
    cases j with
    | succ j => exact runE_ok r b' (i + 1) hb j s hs
    | zero =>
     cases hs
     refine ⟨ho, fun k1 k2 => ?_⟩
     have := hn k1 k2
     cases r with
     | nil => cases this
     | cons y r => exact ⟨y, rfl, by simpa [nextT] using this⟩
   cases h2 : (x.kind != 4) with
   | true =>
    rw [runE_2 h1 h2] at h
    exact hh b h fun k1 _ => by rw [k1] at h2; cases h2
   | false =>
    cases h3 : (x.last && !b) with
    | true => rw [runE_3 h1 h2 h3] at h; cases h
    | false =>
     cases h4 : x.last with
     | true =>
      rw [runE_4 h1 h2 h3 h4] at h
      exact hh false h fun _ k2 => by rw [h4] at k2; cases k2
     | false =>
      cases h5 : nextT r with
      | true =>
       rw [runE_6 h1 h2 h3 h4 (by rw [h5]; rfl)] at h
       exact hh true h fun _ _ => h5
      | false => rw [runE_5 h1 h2 h3 h4 (by rw [h5]; rfl)] at h; cases h
structure LigOk (C : List Sg) : Prop where
 next : ∀ i : Nat, i < C.length → (sgI C (i : Nat)).kind = 4 → (sgI C (i : Nat)).last = false → i + 1 < C.length ∧ (sgI C ((i + 1 : Nat) : Int)).kind = 4
 ok : ∀ i : Nat, i < C.length → one (sgI C (i : Nat)) = 0
theorem ligOk {nm : List UInt8} {C : List Sg} (h : (partE nm C).1 = 0) : LigOk C := by
 have h0 : (runE false C 0).1 = 0 := by
  unfold partE at h
  cases h1 : !nameF nm with
  | true => rw [h1] at h; cases h
  | false =>
   cases h2 : decide ((C.length : Int) > 400) with
   | true => rw [h1, h2] at h; cases h
   | false => rw [h1, h2] at h; exact h
 refine ⟨fun i hi hk hl => ?_, fun i hi => (runE_ok C false 0 h0 i _ (sgI_some hi)).1⟩
 obtain ⟨s2, e1, e2⟩ := (runE_ok C false 0 h0 i _ (sgI_some hi)).2 hk hl
 exact ⟨nth_lt e1, by rw [sgI_at e1]; exact e2⟩
theorem tied_sg {C : List Sg} {i : Nat} (h : i < C.length) : tiedI C (i : Nat) = ((sgI C (i : Nat)).kind == 4) := by
 unfold tiedI
 rw [decide_eq_true (show (i : Int) ≥ 0 by omega), decide_eq_true (show (i : Int) < C.length by omega), show ((i : Int)).toNat = i from rfl, sgI_some h]
 rfl
theorem open_sg1 {C : List Sg} {i : Nat} (h : i < C.length) : openB C (i + 1) = (((sgI C (i : Nat)).kind == 4) && !(sgI C (i : Nat)).last) := open_at (sgI_some h)
def lastN : Nat → List Sg → Nat → Nat
 | 0, _, i => i
 | n + 1, C, i => bif (sgI C (i : Nat)).last then i else lastN n C (i + 1)
def prsN : Nat → List Sg → Nat → List (Nat × Nat)
 | 0, _, _ => []
 | n + 1, C, i => bif decide (i < C.length) then (bif (sgI C (i : Nat)).kind == 4 then (i, lastN C.length C i) :: prsN n C (lastN C.length C i + 1) else prsN n C (i + 1)) else []
def fsI (C : List Sg) : Nat → Nat → List Int
 | 0, _ => []
 | n + 1, i => (bif tiedI C (i : Nat) && !openB C i then [((i : Nat) : Int)] else []) ++ fsI C n (i + 1)
def lsI (C : List Sg) : Nat → Nat → List Int
 | 0, _ => []
 | n + 1, i => (bif tiedI C (i : Nat) && (sgI C (i : Nat)).last then [((i : Nat) : Int)] else []) ++ lsI C n (i + 1)
theorem fsI_eq (C : List Sg) : ∀ (n i : Nat), ((List.range' i n).filter fun j => tiedI C (j : Nat) && !openB C j).map (fun j => ((j : Nat) : Int)) = fsI C n i
 | 0, _ => rfl
 | n + 1, i => by
  rw [List.range'_succ, List.filter_cons, fsI, ← fsI_eq C n (i + 1)]
  cases (tiedI C (i : Nat) && !openB C i) <;> rfl
theorem lsI_eq (C : List Sg) : ∀ (n i : Nat), ((List.range' i n).filter fun j => tiedI C (j : Nat) && (sgI C (j : Nat)).last).map (fun j => ((j : Nat) : Int)) = lsI C n i
 | 0, _ => rfl
 | n + 1, i => by
  rw [List.range'_succ, List.filter_cons, lsI, ← lsI_eq C n (i + 1)]
  cases (tiedI C (i : Nat) && (sgI C (i : Nat)).last) <;> rfl
structure Lig1 (C : List Sg) (i k : Nat) : Prop where
 le : i ≤ k
 lt : k < C.length
 last : (sgI C (k : Nat)).last = true
 no : ∀ j : Nat, i ≤ j → j < k → (sgI C (j : Nat)).last = false
 shut : openB C (k + 1) = false
 ls : lsI C (C.length - i) i = (k : Int) :: lsI C (C.length - (k + 1)) (k + 1)
 fs : fsI C (C.length - (i + 1)) (i + 1) = fsI C (C.length - (k + 1)) (k + 1)
theorem lig1 {C : List Sg} (hC : LigOk C) : ∀ (m i : Nat), i < C.length → C.length - i ≤ m → (sgI C (i : Nat)).kind = 4 → Lig1 C i (lastN m C i)
 | 0, i, hi, hm, _ => by omega
 | m + 1, i, hi, hm, hk => by
  have ht : tiedI C (i : Nat) = true := by rw [tied_sg hi, hk]; rfl
  have hn : C.length - i = (C.length - (i + 1)) + 1 := by omega
  cases hl : (sgI C (i : Nat)).last with
  | true =>
   rw [show lastN (m + 1) C i = i by rw [lastN, hl]; rfl]
   refine ⟨Nat.le_refl _, hi, hl, fun j h1 h2 => by omega, by rw [open_sg1 hi, hl, Bool.not_true, Bool.and_false], ?_, rfl⟩
   rw [hn, lsI, ht, hl]; rfl
  | false =>
   rw [show lastN (m + 1) C i = lastN m C (i + 1) by rw [lastN, hl]; rfl]
   obtain ⟨h1, h2⟩ := hC.next i hi hk hl
   have h := lig1 hC m (i + 1) h1 (by omega) h2
   have ho : openB C (i + 1) = true := by rw [open_sg1 hi, hk, hl]; rfl
   refine ⟨by have := h.le; omega, h.lt, h.last, fun j h3 h4 => ?_, h.shut, ?_, ?_⟩
   ·by_cases e : j = i
    ·rw [e]; exact hl
    ·exact h.no j (by omega) h4
   ·rw [hn, lsI, ht, hl, ← h.ls]; rfl
   ·rw [show C.length - (i + 1) = (C.length - (i + 1 + 1)) + 1 by omega, fsI, ho, ← h.fs]
    simp
theorem prs_eq {C : List Sg} (hC : LigOk C) : ∀ (n i : Nat), C.length - i ≤ n → openB C i = false → fsI C (C.length - i) i = (prsN n C i).map (fun p => (p.1 : Int)) ∧ lsI C (C.length - i) i = (prsN n C i).map (fun p => (p.2 : Int)) ∧ ∀ p, p ∈ prsN n C i → i ≤ p.1 ∧ p.1 ≤ p.2 ∧ p.2 < C.length
 | 0, i, hn, _ => by
  rw [show C.length - i = 0 by omega]
  exact ⟨rfl, rfl, fun p hp => (List.not_mem_nil hp).elim⟩
 | n + 1, i, hn, ho => by
  by_cases hi : i < C.length
  ·have hq : C.length - i = (C.length - (i + 1)) + 1 := by omega
   cases hk : ((sgI C (i : Nat)).kind == 4) with
   | true =>
    have h := lig1 hC C.length i hi (by omega) (by simpa using hk)
    obtain ⟨h1, h2, h3⟩ := prs_eq hC n (lastN C.length C i + 1) (by have := h.le; omega) h.shut
    have e : prsN (n + 1) C i = (i, lastN C.length C i) :: prsN n C (lastN C.length C i + 1) := by rw [prsN, decide_eq_true hi, hk]; rfl
    refine ⟨?_, ?_, fun p hp => ?_⟩
    ·rw [e, hq, fsI, tied_sg hi, hk, ho, h.fs, h1]; rfl
    ·rw [e, h.ls, h2]; rfl
    ·rw [e] at hp
     rcases List.mem_cons.1 hp with rfl | hp
     ·exact ⟨Nat.le_refl _, h.le, h.lt⟩
     ·have := h3 p hp
      have := h.le
      exact ⟨by omega, by omega, by omega⟩
   | false =>
    have ho' : openB C (i + 1) = false := by rw [open_sg1 hi, hk]; rfl
    obtain ⟨h1, h2, h3⟩ := prs_eq hC n (i + 1) (by omega) ho'
    have e : prsN (n + 1) C i = prsN n C (i + 1) := by rw [prsN, decide_eq_true hi, hk]; rfl
    refine ⟨?_, ?_, fun p hp => ?_⟩
    ·rw [e, hq, fsI, tied_sg hi, hk, h1]; rfl
    ·rw [e, hq, lsI, tied_sg hi, hk, h2]; rfl
    ·rw [e] at hp
     have := h3 p hp
     exact ⟨by omega, this.2⟩
  ·have e : prsN (n + 1) C i = [] := by rw [prsN, decide_eq_false hi]; rfl
   rw [e, show C.length - i = 0 by omega]
   exact ⟨rfl, rfl, fun p hp => (List.not_mem_nil hp).elim⟩
def prs (C : List Sg) : List (Nat × Nat) := prsN C.length C 0
theorem prs_firsts {C : List Sg} (hC : LigOk C) : firstsN C C.length = (prs C).map (fun p => (p.1 : Int)) := by
 have h := (prs_eq hC C.length 0 (by omega) rfl).1
 unfold firstsN prs
 rw [fsI_eq, ← h]; rfl
theorem prs_lasts {C : List Sg} (hC : LigOk C) : lastsN C C.length = (prs C).map (fun p => (p.2 : Int)) := by
 have h := (prs_eq hC C.length 0 (by omega) rfl).2.1
 unfold lastsN prs
 rw [lsI_eq, ← h]; rfl
theorem prs_mem {C : List Sg} (hC : LigOk C) {p : Nat × Nat} (hp : p ∈ prs C) : p.1 ≤ p.2 ∧ p.2 < C.length := ((prs_eq hC C.length 0 (by omega) rfl).2.2 p hp).2
theorem prs_len {C : List Sg} (hC : LigOk C) : (prs C).length ≤ C.length := by
 have h := congrArg List.length (prs_firsts hC)
 rw [List.length_map] at h
 have := firstsN_len C C.length
 omega
def segm (C : List Sg) (f l : Nat) : List Sg := (C.drop f).take (l + 1 - f)
def noteV (s : Sg) (v : Int) : Sg := { kind := 1, value := v, place := s.place, acc := s.acc, color := s.color, stem := 0, oblique := false, last := false, mx := 0, md := 0, tm := 0, pr := 0, stroke := false, n := 0, d := 0, step := 0, line := 0 }
def putN (C W : List Sg) (f : Nat) : Nat → Nat → List Sg → List Sg
 | 0, _, D => D
 | n + 1, j, D => putN C W f n (j + 1) (D.set (f + j) (noteV (sgI C ((f + j : Nat) : Int)) (ligValue W (j : Nat))))
def expL (C : List Sg) : List (Nat × Nat) → List Sg → Int × List Sg
 | [], D => (0, D)
 | p :: r, D => bif (ligCheck (segm C p.1 p.2)).1 != 0 then ((ligCheck (segm C p.1 p.2)).1, []) else expL C r (putN C (segm C p.1 p.2) p.1 (p.2 + 1 - p.1) 0 D)
def expE (nm : List UInt8) (C : List Sg) : Int × List Sg := bif (partE nm C).1 != 0 then ((partE nm C).1, []) else expL C (prs C) C
theorem expL_err {C D : List Sg} {p : Nat × Nat} {r : List (Nat × Nat)} (h : ((ligCheck (segm C p.1 p.2)).1 != 0) = true) : expL C (p :: r) D = ((ligCheck (segm C p.1 p.2)).1, []) := by rw [expL, h]; rfl
theorem expL_go {C D : List Sg} {p : Nat × Nat} {r : List (Nat × Nat)} (h : ((ligCheck (segm C p.1 p.2)).1 != 0) = false) : expL C (p :: r) D = expL C r (putN C (segm C p.1 p.2) p.1 (p.2 + 1 - p.1) 0 D) := by rw [expL, h]; rfl
theorem segm_len {C : List Sg} {f l : Nat} (h : l < C.length) (hf : f ≤ l) : (segm C f l).length = l + 1 - f := by
 unfold segm
 rw [List.length_take, List.length_drop]; omega
theorem nth_set_ne : ∀ {D : List Sg} {i j : Nat} {x : Sg}, i ≠ j → nth (D.set i x) j = nth D j
 | [], _, _, _, _ => rfl
 | y :: D, 0, 0, x, h => absurd rfl h
 | y :: D, 0, j + 1, x, _ => rfl
 | y :: D, i + 1, 0, x, _ => rfl
 | y :: D, i + 1, j + 1, x, h => nth_set_ne (D := D) fun e => h (by rw [e])
theorem sgI_set_ne {D : List Sg} {i j : Nat} {x : Sg} (h : i ≠ j) : sgI (D.set i x) (j : Nat) = sgI D (j : Nat) := by
 unfold sgI
 rw [show ((j : Int)).toNat = j from rfl, nth_set_ne h]
theorem setN_skip {a : Value} {z : List Value} {c : List Value} : ∀ (p : List Value) {k : Nat} {r : List Value}, setN k (a :: z) c = some r → setN (p.length + k) (a :: z) (p ++ c) = some (p ++ r)
 | [], k, r, h => by simpa using h
 | x :: p, k, r, h => by
  rw [show (x :: p).length + k = (p.length + k) + 1 by simp only [List.length_cons]; omega]
  have e := setN_skip p h
  simp only [List.cons_append, setN, e]
theorem setN_front : ∀ (z y r : List Value), z.length = y.length → setN 0 z (y ++ r) = some (z ++ r)
 | [], [], r, _ => by simp only [List.nil_append, setN]
 | [], _ :: _, _, h => by simp at h
 | _ :: _, [], _, h => by simp at h
 | a :: z, b :: y, r, h => by
  have e := setN_front z y r (by simpa using h)
  simp only [List.cons_append, setN, e]
theorem setN_sign (x : Sg) : ∀ (D : List Sg) (i : Nat), i < D.length → setN (i * 17) x.cells (D.map Sg.cells).flatten = some ((D.set i x).map Sg.cells).flatten
 | [], i, h => by simp at h
 | y :: D, 0, _ => by
  rw [Nat.zero_mul]
  simpa only [List.map_cons, List.flatten_cons, List.set_cons_zero] using setN_front x.cells y.cells (D.map Sg.cells).flatten rfl
 | y :: D, i + 1, h => by
  have e : setN (y.cells.length + i * 17) x.cells (y.cells ++ (D.map Sg.cells).flatten) = some (y.cells ++ ((D.set i x).map Sg.cells).flatten) := setN_skip y.cells (setN_sign x D i (by simpa using h))
  rw [show y.cells.length + i * 17 = (i + 1) * 17 by rw [cells17]; omega] at e
  exact e
end Go.Proofs.YtkmhecihkckcmaaGreatDoor
namespace Go.Proofs.YtkmhecihkckcmaaGreatDoor
open Go.Cm Go
set_option maxRecDepth 100000
variable {S : St}
def secN : Nat → List Sg → Nat → Int → Bool → Int
 | 0, _, _, _, _ => 0
 | n + 1, C, i, f, b => bif classI (sgI C (i : Nat)).kind == 1 then (bif !b then 12 else secN n C (i + 1) (bif decide (f < 0) then ((i : Nat) : Int) else f) b)
  else bif classI (sgI C (i : Nat)).kind == 2 then (bif decide (f < 0) then 13 else secN n C (i + 1) f b)
  else bif classI (sgI C (i : Nat)).kind == 3 then secN n C (i + 1) (-1) (b || ((sgI C (i : Nat)).kind == 5))
  else secN n C (i + 1) f b
def secE (C : List Sg) : Int := secN C.length C 0 (-1) false
def stp (C : List Sg) (i : Int) (r : Int × Int × Int) : Int × Int × Int :=
 bif r.1 != 0 then r else scanN 1 C i r.2.1 r.2.2
theorem scan_snoc : ∀ (n : Nat) (C : List Sg) (i f t : Int), scanN (n + 1) C i f t = stp C (i + n) (scanN n C i f t)
 | 0, C, i, f, t => by
  unfold stp
  rw [show scanN 0 C i f t = (0, f, t) from rfl, show i + ((0 : Nat) : Int) = i by omega]
  rfl
 | n + 1, C, i, f, t => by
  have ei : i + 1 + (n : Int) = i + ((n + 1 : Nat) : Int) := by omega
  cases h1 : (classI (sgI C i).kind == 1) with
  | true => rw [scan_1 h1, scan_1 h1, scan_snoc n, ei]
  | false =>
   cases h2 : (classI (sgI C i).kind == 2) with
   | true =>
    cases h3 : decide (f < 0) with
    | true => rw [scan_2 h1 h2 h3, scan_2 h1 h2 h3]; rfl
    | false => rw [scan_3 h1 h2 h3, scan_3 h1 h2 h3, scan_snoc n, ei]
   | false => rw [scan_4 h1 h2, scan_4 h1 h2, scan_snoc n, ei]
theorem made_skip {n : Nat} {C : List Sg} {i p : Nat} {a b c d : Int} (hi : i < C.length) (h : (classI (sgI C (i : Nat)).kind == 3) = false) : madeN (n + 1) C i p a b c d = madeN n C (i + 1) p a b c d := by
 rw [madeN, decide_eq_true (by omega), bne, h]; rfl
theorem made_err {n : Nat} {C : List Sg} {i p : Nat} {a b c d : Int} (h : (decide ((i : Int) < C.length) && (classI (sgI C (i : Nat)).kind != 3)) = false) (hw : ((wholeE C p i a b c d).1 != 0) = true) : madeN (n + 1) C i p a b c d = (wholeE C p i a b c d).1 := by
 rw [madeN, h, hw]; rfl
theorem whole_snoc {C : List Sg} {p i : Nat} (hpi : p ≤ i) : scanN (i + 1 - p) C p (-1) 0 = stp C i (scanN (i - p) C p (-1) 0) := by
 rw [show i + 1 - p = (i - p) + 1 by omega, scan_snoc, show (p : Int) + ((i - p : Nat) : Int) = i by omega]
theorem scan1_1 {C : List Sg} {i f t : Int} (h : (classI (sgI C i).kind == 1) = true) : scanN 1 C i f t = (0, bif decide (f < 0) then i else f, i + 1) := scan_1 h
theorem scan1_2 {C : List Sg} {i f t : Int} (h : (classI (sgI C i).kind == 1) = false) (h2 : (classI (sgI C i).kind == 2) = true) (h3 : decide (f < 0) = true) : scanN 1 C i f t = (13, f, t) := scan_2 h h2 h3
theorem scan1_3 {C : List Sg} {i f t : Int} (h : (classI (sgI C i).kind == 1) = false) (h2 : (classI (sgI C i).kind == 2) = true) (h3 : decide (f < 0) = false) : scanN 1 C i f t = (0, f, i + 1) := scan_3 h h2 h3
theorem scan1_4 {C : List Sg} {i f t : Int} (h : (classI (sgI C i).kind == 1) = false) (h2 : (classI (sgI C i).kind == 2) = false) : scanN 1 C i f t = (0, f, t) := scan_4 h h2
theorem sec_bad {C : List Sg} {a b c d e : Int} {p : Nat} : ∀ (n i : Nat), p ≤ i → i + n = C.length → (∃ f t, (scanN (i - p) C p (-1) 0 = (13, f, t) ∧ e = 13) ∨ (scanN (i - p) C p (-1) 0 = (0, f, t) ∧ 0 ≤ f ∧ noM a b c d = true ∧ e = 12)) → madeN (n + 1) C i p a b c d = e := by
 intro n
 induction n with
 | zero =>
  intro i hpi hi hs
  have hb : (decide ((i : Int) < C.length) && (classI (sgI C (i : Nat)).kind != 3)) = false := by rw [decide_eq_false (by omega)]; rfl
  obtain ⟨f, t, ⟨h1, rfl⟩ | ⟨h1, h2, h3, rfl⟩⟩ := hs
  ·have hw : (wholeE C p i a b c d).1 = 13 := by unfold wholeE; rw [h1]; rfl
   rw [made_err hb (by rw [hw]; rfl), hw]
  ·have hw : (wholeE C p i a b c d).1 = 12 := by unfold wholeE; rw [h1, h3]; simp [h2]
   rw [made_err hb (by rw [hw]; rfl), hw]
 | succ n ih =>
  intro i hpi hi hs
  cases h3 : (classI (sgI C (i : Nat)).kind == 3) with
  | true =>
   have hb : (decide ((i : Int) < C.length) && (classI (sgI C (i : Nat)).kind != 3)) = false := by rw [bne, h3, Bool.not_true, Bool.and_false]
   obtain ⟨f, t, ⟨h1, rfl⟩ | ⟨h1, h2, h4, rfl⟩⟩ := hs
   ·have hw : (wholeE C p i a b c d).1 = 13 := by unfold wholeE; rw [h1]; rfl
    rw [made_err hb (by rw [hw]; rfl), hw]
   ·have hw : (wholeE C p i a b c d).1 = 12 := by unfold wholeE; rw [h1, h4]; simp [h2]
    rw [made_err hb (by rw [hw]; rfl), hw]
  | false =>
   rw [made_skip (by omega) h3]
   refine ih (i + 1) (by omega) (by omega) ?_
   rw [whole_snoc hpi]
   obtain ⟨f, t, ⟨h1, rfl⟩ | ⟨h1, h2, h4, rfl⟩⟩ := hs
   ·exact ⟨f, t, .inl ⟨by rw [h1]; rfl, rfl⟩⟩
   ·rw [h1]
    have hf : decide (f < 0) = false := decide_eq_false (by omega)
    show ∃ f' t', (scanN 1 C i f t = (13, f', t') ∧ _) ∨ (scanN 1 C i f t = (0, f', t') ∧ _)
    cases k1 : (classI (sgI C (i : Nat)).kind == 1) with
    | true => rw [scan1_1 k1, hf]; exact ⟨f, _, .inr ⟨rfl, h2, h4, rfl⟩⟩
    | false =>
     cases k2 : (classI (sgI C (i : Nat)).kind == 2) with
     | true => rw [scan1_3 k1 k2 hf]; exact ⟨f, _, .inr ⟨rfl, h2, h4, rfl⟩⟩
     | false => rw [scan1_4 k1 k2]; exact ⟨f, _, .inr ⟨rfl, h2, h4, rfl⟩⟩
theorem class3_ne {k : Int} (h : (classI k == 3) = true) : (classI k == 1) = false ∧ (classI k == 2) = false := by
 have : classI k = 3 := by simpa using h
 rw [this]; exact ⟨rfl, rfl⟩
theorem sec_same {C : List Sg} (hM : ∀ i : Nat, i < C.length → (sgI C (i : Nat)).kind = 5 → noM (sgI C (i : Nat)).mx (sgI C (i : Nat)).md (sgI C (i : Nat)).tm (sgI C (i : Nat)).pr = false) : ∀ (n i p : Nat) (a b c d f t : Int), p ≤ i → i + n = C.length → scanN (i - p) C p (-1) 0 = (0, f, t) → (f < 0 ∨ noM a b c d = false) → secN n C i f (!noM a b c d) = madeN (n + 1) C i p a b c d := by
 intro n
 induction n with
 | zero =>
  intro i p a b c d f t hpi hi hs hk
  have hb : (decide ((i : Int) < C.length) && (classI (sgI C (i : Nat)).kind != 3)) = false := by rw [decide_eq_false (by omega)]; rfl
  have hb2 : (decide ((i : Int) < C.length) && ((sgI C (i : Nat)).kind == 5)) = false := by rw [decide_eq_false (by omega)]; rfl
  have hw : (wholeE C p i a b c d).1 = 0 := by
   unfold wholeE; rw [hs]
   rcases hk with h | h
   ·simp [show ¬ f ≥ 0 by omega]
   ·simp [h]
  rw [madeN, hb, hw, hb2]; rfl
 | succ n ih =>
  intro i p a b c d f t hpi hi hs hk
  cases h3 : (classI (sgI C (i : Nat)).kind == 3) with
  | true =>
   obtain ⟨k1, k2⟩ := class3_ne h3
   have hb : (decide ((i : Int) < C.length) && (classI (sgI C (i : Nat)).kind != 3)) = false := by rw [bne, h3, Bool.not_true, Bool.and_false]
   have hw : (wholeE C p i a b c d).1 = 0 := by
    unfold wholeE; rw [hs]
    rcases hk with h | h
    ·simp [show ¬ f ≥ 0 by omega]
    ·simp [h]
   rw [secN, k1, k2, h3, madeN, hb, hw, decide_eq_true (show (i : Int) < C.length by omega)]
   simp only [cond_true, cond_false, bne_self_eq_false, Bool.true_and]
   cases h5 : ((sgI C (i : Nat)).kind == 5) with
   | true =>
    have hm := hM i (by omega) (by simpa using h5)
    have := ih (i + 1) (i + 1) (sgI C (i : Nat)).mx (sgI C (i : Nat)).md (sgI C (i : Nat)).tm (sgI C (i : Nat)).pr (-1) 0 (Nat.le_refl _) (by omega) (by rw [Nat.sub_self]; rfl) (.inl (by omega))
    rw [hm] at this
    rw [Bool.or_true, cond_true]
    exact this
   | false =>
    rw [Bool.or_false, cond_false]
    exact ih (i + 1) (i + 1) a b c d (-1) 0 (Nat.le_refl _) (by omega) (by rw [Nat.sub_self]; rfl) (.inl (by omega))
  | false =>
   rw [made_skip (by omega) h3]
   have hsn := whole_snoc (C := C) hpi
   rw [hs] at hsn
   have hsn : scanN (i + 1 - p) C p (-1) 0 = scanN 1 C i f t := hsn
   cases k1 : (classI (sgI C (i : Nat)).kind == 1) with
   | true =>
    rw [scan1_1 k1] at hsn
    rw [secN, k1, cond_true]
    cases hm : noM a b c d with
    | true =>
     have hf : f < 0 := hk.resolve_right (by rw [hm]; exact Bool.noConfusion)
     rw [Bool.not_true, Bool.not_false, cond_true]
     refine (sec_bad n (i + 1) (by omega) (by omega) ⟨_, _, .inr ⟨hsn, ?_, hm, rfl⟩⟩).symm
     rw [decide_eq_true hf, cond_true]; omega
    | false =>
     rw [Bool.not_false, Bool.not_true, cond_false]
     have := ih (i + 1) p a b c d _ _ (by omega) (by omega) hsn (.inr hm)
     rw [hm] at this
     exact this
   | false =>
    cases k2 : (classI (sgI C (i : Nat)).kind == 2) with
    | true =>
     rw [secN, k1, k2, cond_false, cond_true]
     cases hf : decide (f < 0) with
     | true =>
      rw [scan1_2 k1 k2 hf] at hsn
      exact (sec_bad n (i + 1) (by omega) (by omega) ⟨_, _, .inl ⟨hsn, rfl⟩⟩).symm
     | false =>
      rw [scan1_3 k1 k2 hf] at hsn
      exact ih (i + 1) p a b c d f _ (by omega) (by omega) hsn hk
    | false =>
     rw [scan1_4 k1 k2] at hsn
     rw [secN, k1, k2, h3]
     exact ih (i + 1) p a b c d f t (by omega) (by omega) hsn hk
theorem sec_eq {C : List Sg} (hM : ∀ i : Nat, i < C.length → (sgI C (i : Nat)).kind = 5 → noM (sgI C (i : Nat)).mx (sgI C (i : Nat)).md (sgI C (i : Nat)).tm (sgI C (i : Nat)).pr = false) : secE C = madeE C :=
 sec_same hM C.length 0 0 0 0 0 0 (-1) 0 (Nat.le_refl _) (by omega) rfl (.inl (by omega))
theorem bif3 {q : Bool} {x : Int} (h : (bif false then 8 else bif q then 3 else bif true then 12 else x) = 0) : False := by cases q <;> cases h
theorem one_mens {s : Sg} (h : one s = 0) (hk : s.kind = 5) : noM s.mx s.md s.tm s.pr = false := by
 cases hm : noM s.mx s.md s.tm s.pr with
 | false => rfl
 | true =>
  exfalso
  unfold noM at hm
  simp only [Bool.and_eq_true, beq_iff_eq, and_true] at hm
  obtain ⟨h1, h2, h3, h4⟩ := hm
  have e0 : (decide ((5 : Int) < 1) || decide ((5 : Int) > 12)) = false := by decide
  have e1 : (ub 5 7 && (mensE 0 0 0 0 != 0)) = true := by decide
  unfold one at h
  rw [h1, h2, h3, h4, hk, e0, e1] at h
  exact bif3 h
end Go.Proofs.YtkmhecihkckcmaaGreatDoor
namespace Go.Proofs.YtkmhecihkckcmaaGreatDoor
open Go.Cm Go
set_option maxRecDepth 100000
variable {S : St}
theorem nth_drop_ : ∀ {α : Type} {l : List α} {n k : Nat}, nth (l.drop n) k = nth l (n + k)
 | _, l, 0, k => by rw [List.drop_zero, Nat.zero_add]
 | _, [], n + 1, k => by rw [List.drop_nil, nth_none (by simp), nth_none (by simp)]
 | _, x :: l, n + 1, k => by
  rw [List.drop_succ_cons, nth_drop_, show n + 1 + k = (n + k) + 1 by omega]
  rfl
theorem Signs.mid {S : St} {a : Option Addr} {cap : Nat} {C : List Sg} (h : Signs S (.slice a C.length cap) C) {f l : Nat} {x y : Int} (hf : f ≤ l) (hl : l < C.length) (hx : x = (f : Int)) (hy : y = (l : Int) + 1) :
  ∃ a2 cap', sliceV Tryz.prog 22 (.slice a C.length cap) (some (.int .i64 x)) (some (.int .i64 y)) none S = some (.slice a2 (segm C f l).length cap') ∧ Signs S (.slice a2 (segm C f l).length cap') (segm C f l) := by
 have hlen := segm_len hl hf
 rcases h with ⟨h1, _⟩ | ⟨b, o, cap0, cs, e1, hcap, ⟨hb, own, kin, hg⟩, h3⟩
 ·rw [List.map_eq_nil_iff.1 h1] at hl; simp at hl
 ·rw [List.length_map] at e1 hcap
  cases e1
  refine ⟨some ⟨b, o + f * 17, none⟩, cap - f, ?_, .inr ⟨b, o + f * 17, cap - f, cs, ?_, ?_, ⟨hb, own, kin, hg⟩, fun j z hz => ?_⟩⟩
  ·rw [hlen]
   unfold sliceV
   have hz : szOf Tryz.prog 63 = some 17 := by kernel_rfl
   have hb3 : bounds3 C.length cap (some (.int .i64 x)) (some (.int .i64 y)) none = some (f, l + 1, cap) := by
    unfold bounds3 sliceBnd
    subst hx
    subst hy
    simp only
    rw [if_pos ⟨by omega, by omega⟩]
    simp only
    rw [show ((l : Int) + 1).toNat = l + 1 by omega, if_pos ⟨by omega, by omega⟩]
    rfl
   have hr : rowSize Tryz.prog S b 17 = true := by
    unfold rowSize
    rw [hg]
    simp only [hz]
    rfl
   simp only [Tryz.underlying22, hz, hb3, hr, cond_true, Option.isSome_none, Bool.false_and, cond_false]
  ·rw [List.length_map]
  ·rw [List.length_map, hlen]; omega
  ·obtain ⟨s, hs⟩ : ∃ s, nth (segm C f l) j = some s := nth_some (by have := nth_lt hz; rwa [List.length_map] at this)
   rw [nth_map Sg.cells hs] at hz
   cases hz
   have h4 : nth C (f + j) = some s := by rw [← nth_drop_]; exact nth_take hs
   have := h3 (f + j) _ (nth_map Sg.cells h4)
   rw [show o + f * 17 + j * 17 = o + (f + j) * 17 by omega]
   exact this
theorem HoldG.own1 {S S' : St} (hk : Keep S S') {b : Nat} {x : Blk} (h1 : S.size ≤ b) (h2 : b < S'.size) (h3 : S'.get b = some x) : HoldG S [S] S' [(b, x)] [] :=
 ⟨hk, List.nodup_cons.2 ⟨List.not_mem_nil, List.nodup_nil⟩, fun c y hc => by cases List.mem_singleton.1 hc; exact ⟨h3, h1, h2⟩, fun T hT => by rw [List.mem_singleton.1 hT]; exact hk.rk, fun g hg => (List.not_mem_nil hg).elim⟩
theorem own_row {S0 S : St} {Ts : List St} {l : List (Nat × Blk)} {gs : List Gr} (hl : HoldG S0 Ts S l gs) (k : Nat) {b e : Nat} {c : List Value} {own : Bool} {kin : List Nat} (hk : nth l k = some (b, .cells c e true own kin)) : RowAt S b e c := ⟨(hl.at_ b _ (nth_mem hk)).2.2, own, kin, hl.get k hk⟩
theorem GrowI.own {S S' : St} (hk : Keep S S') {v : Value} {l : List Int} (h : GrowI S S' v l) (hne : 0 < l.length) : ∃ b kin, v = .slice (some ⟨b, 0, none⟩) l.length l.length ∧ HoldG S [S] S' [(b, .cells (l.map iv) 3 true true kin)] [] := by
 rcases h with ⟨_, h, _⟩ | ⟨b, kin, h1, h2, h3, h4, _⟩
 ·rw [List.map_eq_nil_iff.1 h] at hne; simp at hne
 ·exact ⟨b, kin, h1, HoldG.own1 hk h2 h3 h4⟩
def TLp (aw : Option Addr) (D : List Sg) (tl : List (Nat × Blk)) : Prop := (D = [] ∧ aw = none ∧ tl = []) ∨
 ∃ b ks tl2, aw = some ⟨b, 0, none⟩ ∧ tl = (b, .cells (D.map Sg.cells).flatten 63 true true ks) :: tl2 ∧ (0 < D.length → tl2 = deadL 63 ks)
theorem TLp.pos {aw : Option Addr} {D : List Sg} {tl : List (Nat × Blk)} (h : TLp aw D tl) (hne : 0 < D.length) : ∃ b ks, aw = some ⟨b, 0, none⟩ ∧ tl = (b, .cells (D.map Sg.cells).flatten 63 true true ks) :: deadL 63 ks := by
 rcases h with ⟨h, _⟩ | ⟨b, ks, tl2, h1, h2, h3⟩
 ·rw [h] at hne; simp at hne
 ·exact ⟨b, ks, h1, by rw [h2, h3 hne]⟩
theorem TLp.put {b : Nat} {D : List Sg} : TLp (some ⟨b, 0, none⟩) D ([(b, .cells (D.map Sg.cells).flatten 63 true true [])] : List (Nat × Blk)) := .inr ⟨b, [], [], rfl, rfl, fun _ => rfl⟩
theorem TLp.signs {S0 S : St} {Ts : List St} {r tl : List (Nat × Blk)} {gs : List Gr} {aw : Option Addr} {D : List Sg} (h : TLp aw D tl) (hl : HoldG S0 Ts S (r ++ tl) gs) : Signs S (.slice aw D.length D.length) D := by
 rcases h with ⟨rfl, rfl, _⟩ | ⟨b, ks, tl2, rfl, rfl, _⟩
 ·exact .inl ⟨rfl, .inl rfl⟩
 ·have := hl.at_ b _ (List.mem_append.2 (.inr (List.mem_cons_self ..)))
  exact GrowS.signs (S0 := S0) (.inr ⟨b, ks, rfl, this.2.1, this.2.2, this.1, flat17 D⟩)
theorem cloneT {a : Option Addr} {cap : Nat} {C : List Sg} (hn : C.length ≤ 1000) (hv : Signs S (.slice a C.length cap) C) : CC Tryz.prog KK 55 [.slice a C.length cap] S fun v S' => Keep S S' ∧ ∃ aw tl, v = .slice aw C.length C.length ∧ TLp aw C tl ∧ HoldG S [S] S' tl [] := by
 rcases Nat.eq_zero_or_pos C.length with h0 | h0
 ·obtain rfl := List.eq_nil_of_length_eq_zero h0
  refine cc_mono (spec55 a cap [] hn hv) ?_
  rintro v S' ⟨hk, hg⟩
  rcases hg with ⟨h1, _, _⟩ | ⟨b, kin, h1, h2, h3, h4, _⟩
  ·exact ⟨hk, none, [], h1, .inl ⟨rfl, rfl, rfl⟩, (Hold.start S).call hk⟩
  ·exact ⟨hk, _, _, h1, .inr ⟨b, kin, [], rfl, rfl, fun h => absurd h (Nat.lt_irrefl _)⟩, HoldG.own1 hk h2 h3 h4⟩
 ·refine cc_mono (ospec55 a cap C hn h0 hv) ?_
  rintro v S' ⟨hk, b, B0, rfl, hl⟩
  exact ⟨hk, _, _, rfl, .inr ⟨b, [B0], _, rfl, rfl, fun _ => rfl⟩, hl⟩
theorem flat_nat : ∀ (D : List Sg) (k : Nat), k < D.length → takeN 17 (dropN (k * 17) (D.map Sg.cells).flatten) = some (sgI D (k : Nat)).cells
 | [], k, h => by simp at h
 | y :: D, 0, _ => by
  rw [dropN_eq, Nat.zero_mul, List.drop_zero, List.map_cons, List.flatten_cons, takeN_some _ _ (by rw [List.length_append, cells17]; omega), show (17 : Nat) = y.cells.length from rfl, List.take_left]
  rfl
 | y :: D, k + 1, h => by
  have e := flat_nat D k (by simpa using h)
  rw [dropN_eq] at e ⊢
  rw [List.map_cons, List.flatten_cons, show (k + 1) * 17 = y.cells.length + k * 17 by rw [cells17]; omega, ← List.drop_drop, List.drop_left, e]
  rfl
theorem flat_at {D : List Sg} {k : Int} (h0 : 0 ≤ k) (h : k < D.length) : takeN 17 (dropN (0 + k.toNat * 17) (D.map Sg.cells).flatten) = some (sgI D k).cells := by
 obtain ⟨n, rfl⟩ := Int.eq_ofNat_of_zero_le h0
 rw [Nat.zero_add]
 exact flat_nat D n (by omega)
theorem set_sign {D : List Sg} {i : Nat} {k : Int} (x : Sg) (hk : k = (i : Int)) (h : i < D.length) : setN (0 + k.toNat * 17) (cellsL x.v) (D.map Sg.cells).flatten = some ((D.set i x).map Sg.cells).flatten := by
 subst hk
 rw [Nat.zero_add]
 exact setN_sign x D i h
theorem vals_at {C : List Sg} {j : Nat} (h : j < C.length) : nth ((ligValues C).map iv) (0 + ((j : Nat) : Int).toNat * 1) = some (.int .i64 (ligValue C (j : Nat))) := by
 rw [Nat.zero_add, Nat.mul_one]
 unfold ligValues
 rw [List.map_map, show ((j : Nat) : Int).toNat = j from rfl, nth_rangeM _ _ _ _ h, Nat.zero_add]
 rfl
end Go.Proofs.YtkmhecihkckcmaaGreatDoor

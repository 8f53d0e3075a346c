/-
  The program: classes, fields of a ligature. The program: shapes of a ligature. The program: ligature.Check. The program: rules of values. The program: ligature.value. The program: ligature.Values. The reference: classes. The reference: a note of a ligature. The reference: ligatures checked, a value. The reference: values.
-/
import Derived.Test.YtkmhecihkckcmaaGreatDoorSmB
namespace Go.Proofs.YtkmhecihkckcmaaGreatDoor
open Go.Cm Go
set_option maxRecDepth 100000
variable {S : St}
def classL : List Value := [.int .i64 0, .int .i64 1, .int .i64 1, .int .i64 2, .int .i64 1, .int .i64 3, .int .i64 3, .int .i64 4, .int .i64 4, .int .i64 3, .int .i64 3, .int .i64 4, .int .i64 4]
def Gc (S : St) : Prop := 0 < S.size ∧ S.get 0 = some (.cells classL 0 false false [])
theorem Gc.keep {S T : St} (h : Gc S) (k : Keep S T) : Gc T := ⟨Nat.lt_of_lt_of_le h.1 k.1, (k.2 0 h.1).trans h.2⟩
theorem class_at {k : Int} (h1 : 1 ≤ k) (h2 : k ≤ 12) : nth classL (0 + k.toNat * 1) = some (.int .i64 (classI k)) := by
 rcases kind_cases h1 h2 with rfl | rfl | rfl | rfl | rfl | rfl | rfl | rfl | rfl | rfl | rfl | rfl <;> rfl
noncomputable def c62 : Code := Tryz.f62.body.getD .skip
theorem spec62 (k : Int) (hG : Gc S) : CC Tryz.prog KK 62 [.int .i64 k] S (fun v S' => Keep S S' ∧ v = tupV [.int .i64 (classI k), .int .i64 (bif decide (k < 1) || decide (k > 12) then 8 else 0)]) := by
 refine cc_enter (c := c62) (n := 13) Tryz.func62 rfl rfl rfl (by kernel_rfl) rfl rfl ?_
 have hl := Hold.start S
 refine xs (by kernel_rfl) ?_; iterate 2 refine rm rfl ?_
 refine re_end rfl ?_; refine xp_seq rfl ?_; refine xp_seq rfl (xe_toE hl 9 (.bool (decide (k < 1) || decide (k > 12))) ?_ rfl ?_)
 ·
  refine xg (by kernel_rfl) ?_; refine rm rfl ?_; refine rr rfl (rd_bin rfl rfl rfl rfl) ?_; refine rm rfl ?_; refine re_bool (d := 6) rfl (fun h6 => ?_) (fun h6 => ?_)
  ·
   iterate 2 refine rz rfl ?_
   refine rm rfl ?_; refine re_end rfl ?_
   exact ⟨rfl, bl (by first | (simp [h6]; done) | (simp only [h6, BLs])), by repeat (first | exact subL_refl _ | refine subL_skip rfl ?_), hl⟩
  ·
   refine rm rfl ?_; refine rr rfl (rd_bin rfl rfl rfl rfl) ?_; refine rm rfl ?_; refine re_end rfl ?_
   exact ⟨rfl, bl (by first | (simp [h6]; done) | (simp only [h6, BLs])), by repeat (first | exact subL_refl _ | refine subL_skip rfl ?_), hl⟩
 intro S1 hl
 refine xp_cond rfl rfl (fun h9 => ?_) (fun h9 => ?_)
 ·
  refine xs (by kernel_rfl) ?_; iterate 2 refine rm rfl ?_
  refine re_end rfl ?_; refine xp_ret rfl ?_
  refine thn_ret (done_ret (ress_tmp rfl (ress_tmp rfl rfl)) ⟨hl.keep, by unfold classI; rw [h9]; rfl⟩)
 ·
  refine xp_skip rfl ?_; refine xs (by kernel_rfl) ?_; refine rm rfl ?_; refine rr rfl (rd_indexAddr rfl rfl rfl (indexAddr_array (z := 1) Tryz.underlying125 (by kernel_rfl) ⟨by first | omega | (simp at *; omega), by first | omega | (simp at *; omega)⟩)) ?_; refine rr rfl (rd_load rfl rfl (load1_of (by kernel_rfl) (hG.keep hl.keep).2 (class_at (by simp at h9; omega) (by simp at h9; omega)))) ?_; iterate 2 refine rm rfl ?_
  refine re_end rfl ?_; refine xp_ret rfl ?_
  refine done_ret (ress_tmp rfl (ress_tmp rfl rfl)) ⟨hl.keep, by rw [h9]; rfl⟩
noncomputable def c51 : Code := Tryz.f51.body.getD .skip
theorem spec51 (s : Sg) (hG : Gc S) : CC Tryz.prog KK 51 [s.v] S (fun v S' => Keep S S' ∧ v = .int .i64 (classI s.kind)) := by
 refine cc_enter (c := c51) (n := 12) Tryz.func51 rfl rfl rfl (by kernel_rfl) rfl rfl ?_
 have hl := Hold.start S
 refine xs (by kernel_rfl) ?_; refine re_boxL hl rfl rfl rfl rfl rfl rfl ?_; intro B1 S1 hl; refine rm rfl ?_; refine re_end rfl ?_; refine xs (by kernel_rfl) ?_; refine rr rfl (rd_fieldAddr rfl rfl (fa Tryz.underlying63 az63 rfl)) ?_; refine rr rfl (rl hl 0 rfl rfl (by kernel_rfl) rfl rfl) ?_
 refine re_callL hl rfl rfl rfl rfl rfl rfl rfl (spec62 _ (hG.keep hl.keep)) ?_; rintro v S1 hk1 rfl hl
 iterate 5 refine rm rfl ?_
 refine re_end rfl ?_; refine xs (by kernel_rfl) ?_; iterate 2 refine rm rfl ?_
 refine re_end rfl ?_; refine xp_ret rfl ?_
 refine done_ret (ress_tmp rfl rfl) ⟨hl.keep, rfl⟩
noncomputable def c106 : Code := Tryz.f106.body.getD .skip
theorem spec106 (s : Sg) : CC Tryz.prog KK 106 [s.v] S (fun v S' => Keep S S' ∧ v = (bareS s).v) := by
 refine cc_enter (c := c106) (n := 18) Tryz.func106 rfl rfl rfl (by kernel_rfl) rfl rfl ?_
 have hl := Hold.start S
 refine xs (by kernel_rfl) ?_; refine re_boxL hl rfl rfl rfl rfl rfl rfl ?_; intro B1 S1 hl; refine re_allocL hl rfl rfl rfl rfl rfl (z := [.int .i64 0, .int .i64 0, .int .i64 0, .int .i64 0, .bool false, .int .i64 0, .bool false, .bool false, .int .i64 0, .int .i64 0, .int .i64 0, .int .i64 0, .bool false, .int .i64 0, .int .i64 0, .int .i64 0, .int .i64 0]) (by kernel_rfl) ?_; intro B2 S2 hl; refine re_end rfl ?_; refine xs (by kernel_rfl) ?_; refine rr rfl (rd_fieldAddr rfl rfl (fa Tryz.underlying63 az63 rfl)) ?_; refine rr rfl (rl hl 1 rfl rfl (by kernel_rfl) rfl rfl) ?_
 refine rr rfl (rd_fieldAddr rfl rfl (fa Tryz.underlying63 az63 rfl)) ?_; refine rr rfl (rl hl 1 rfl rfl (by kernel_rfl) rfl rfl) ?_; refine rr rfl (rd_fieldAddr rfl rfl (fa Tryz.underlying63 az63 rfl)) ?_; refine rr rfl (rl hl 1 rfl rfl (by kernel_rfl) rfl rfl) ?_; refine rr rfl (rd_fieldAddr rfl rfl (fa Tryz.underlying63 az63 rfl)) ?_; refine rr rfl (rl hl 1 rfl rfl (by kernel_rfl) rfl rfl) ?_; refine rr rfl (rd_fieldAddr rfl rfl (fa Tryz.underlying63 az63 rfl)) ?_; refine rr rfl (rl hl 1 rfl rfl (by kernel_rfl) rfl rfl) ?_
 refine rr rfl (rd_fieldAddr rfl rfl (fa Tryz.underlying63 az63 rfl)) ?_; refine rr rfl (rl hl 1 rfl rfl (by kernel_rfl) rfl rfl) ?_; refine rr rfl (rd_fieldAddr rfl rfl (fa Tryz.underlying63 az63 rfl)) ?_; refine rr rfl (rl hl 1 rfl rfl (by kernel_rfl) rfl rfl) ?_; refine rr rfl (rd_build rfl rfl (v := (bareS s).v) (by rfl)) ?_; refine re_storeL hl 0 rfl rfl rfl rfl rfl rfl rfl (by kernel_rfl) rfl ?_; intro S1 hl; refine re_end rfl ?_; refine xp_ret rfl ?_
 refine done_ret (ress_cell rfl (loadN_of (z := 17) (by kernel_rfl) (by kernel_rfl) (hl.get 0 rfl) rfl) rfl) ⟨hl.keep, rfl⟩
noncomputable def c84 : Code := Tryz.f84.body.getD .skip
theorem spec84 (s : Sg) (b : Bool) : CC Tryz.prog KK 84 [s.v, .bool b] S (fun v S' => Keep S S' ∧ v = .int .i64 (fieldsE s b)) := by
 refine cc_enter (c := c84) (n := 47) Tryz.func84 rfl rfl rfl (by kernel_rfl) rfl rfl ?_
 have hl := Hold.start S
 refine xs (by kernel_rfl) ?_; refine re_boxL hl rfl rfl rfl rfl rfl rfl ?_; intro B2 S2 hl; refine rm rfl ?_; refine re_end rfl ?_; refine xp_seq rfl ?_; refine xp_block rfl ?_; refine xs (by kernel_rfl) ?_; refine rr rfl (rd_fieldAddr rfl rfl (fa Tryz.underlying63 az63 rfl)) ?_; refine rr rfl (rl hl 0 rfl rfl (by kernel_rfl) rfl rfl) ?_; refine rr rfl (rd_bin rfl rfl rfl rfl) ?_; refine rm rfl ?_; refine re_end rfl ?_; refine xp_cond rfl rfl (fun h5 => ?_) (fun h5 => ?_)
 ·
  refine xs (by kernel_rfl) ?_; refine rm rfl ?_; refine re_end rfl ?_; refine xp_ret rfl ?_
  refine blk_ret (thn_ret (done_ret (ress_tmp rfl rfl) ⟨hl.keep, congrArg (Value.int .i64) (by unfold fieldsE; rw [h5]; rfl)⟩))
 ·
  refine xp_seq rfl (xe_toE hl 9 (.bool (decide (s.place < -4) || decide (s.place > 12))) ?_ rfl ?_)
  ·
   refine xg (by kernel_rfl) ?_; refine rr rfl (rd_fieldAddr rfl rfl (fa Tryz.underlying63 az63 rfl)) ?_; refine rr rfl (rl hl 0 rfl rfl (by kernel_rfl) rfl rfl) ?_; refine rr rfl (rd_bin rfl rfl rfl rfl) ?_; refine rm rfl ?_; refine re_bool (d := 13) rfl (fun h13 => ?_) (fun h13 => ?_)
   ·
    iterate 3 refine rz rfl ?_
    iterate 2 refine rm rfl ?_
    refine re_end rfl ?_
    exact ⟨rfl, bl (by first | (simp [h13]; done) | (simp only [h13, BLs])), by repeat (first | exact subL_refl _ | refine subL_skip rfl ?_), hl⟩
   ·
    refine rr rfl (rd_fieldAddr rfl rfl (fa Tryz.underlying63 az63 rfl)) ?_; refine rr rfl (rl hl 0 rfl rfl (by kernel_rfl) rfl rfl) ?_; refine rr rfl (rd_bin rfl rfl rfl rfl) ?_; iterate 2 refine rm rfl ?_
    refine re_end rfl ?_
    exact ⟨rfl, bl (by first | (simp [h13]; done) | (simp only [h13, BLs])), by repeat (first | exact subL_refl _ | refine subL_skip rfl ?_), hl⟩
  intro S1 hl
  refine xp_cond rfl rfl (fun h9 => ?_) (fun h9 => ?_)
  ·
   refine xs (by kernel_rfl) ?_; refine rm rfl ?_; refine re_end rfl ?_; refine xp_ret rfl ?_
   refine blk_ret (thn_ret (done_ret (ress_tmp rfl rfl) ⟨hl.keep, congrArg (Value.int .i64) (by unfold fieldsE; rw [h5, h9]; rfl)⟩))
  ·
   refine xp_seq rfl (xe_toE hl 18 (.bool (decide (s.acc < -1) || decide (s.acc > 2))) ?_ rfl ?_)
   ·
    refine xg (by kernel_rfl) ?_; refine rr rfl (rd_fieldAddr rfl rfl (fa Tryz.underlying63 az63 rfl)) ?_; refine rr rfl (rl hl 0 rfl rfl (by kernel_rfl) rfl rfl) ?_; refine rr rfl (rd_bin rfl rfl rfl rfl) ?_; refine rm rfl ?_; refine re_bool (d := 22) rfl (fun h22 => ?_) (fun h22 => ?_)
    ·
     iterate 3 refine rz rfl ?_
     iterate 2 refine rm rfl ?_
     refine re_end rfl ?_
     exact ⟨rfl, bl (by first | (simp [h22]; done) | (simp only [h22, BLs])), by repeat (first | exact subL_refl _ | refine subL_skip rfl ?_), hl⟩
    ·
     refine rr rfl (rd_fieldAddr rfl rfl (fa Tryz.underlying63 az63 rfl)) ?_; refine rr rfl (rl hl 0 rfl rfl (by kernel_rfl) rfl rfl) ?_; refine rr rfl (rd_bin rfl rfl rfl rfl) ?_; iterate 2 refine rm rfl ?_
     refine re_end rfl ?_
     exact ⟨rfl, bl (by first | (simp [h22]; done) | (simp only [h22, BLs])), by repeat (first | exact subL_refl _ | refine subL_skip rfl ?_), hl⟩
   intro S1 hl
   refine xp_cond rfl rfl (fun h18 => ?_) (fun h18 => ?_)
   ·
    refine xs (by kernel_rfl) ?_; refine rm rfl ?_; refine re_end rfl ?_; refine xp_ret rfl ?_
    refine blk_ret (thn_ret (done_ret (ress_tmp rfl rfl) ⟨hl.keep, congrArg (Value.int .i64) (by unfold fieldsE; rw [h5, h9, h18]; rfl)⟩))
   ·
    refine xp_seq rfl (xe_toE hl 27 (.bool (decide (s.stem < 0) || decide (s.stem > 3))) ?_ rfl ?_)
    ·
     refine xg (by kernel_rfl) ?_; refine rr rfl (rd_fieldAddr rfl rfl (fa Tryz.underlying63 az63 rfl)) ?_; refine rr rfl (rl hl 0 rfl rfl (by kernel_rfl) rfl rfl) ?_; refine rr rfl (rd_bin rfl rfl rfl rfl) ?_; refine rm rfl ?_; refine re_bool (d := 31) rfl (fun h31 => ?_) (fun h31 => ?_)
     ·
      iterate 3 refine rz rfl ?_
      iterate 2 refine rm rfl ?_
      refine re_end rfl ?_
      exact ⟨rfl, bl (by first | (simp [h31]; done) | (simp only [h31, BLs])), by repeat (first | exact subL_refl _ | refine subL_skip rfl ?_), hl⟩
     ·
      refine rr rfl (rd_fieldAddr rfl rfl (fa Tryz.underlying63 az63 rfl)) ?_; refine rr rfl (rl hl 0 rfl rfl (by kernel_rfl) rfl rfl) ?_; refine rr rfl (rd_bin rfl rfl rfl rfl) ?_; iterate 2 refine rm rfl ?_
      refine re_end rfl ?_
      exact ⟨rfl, bl (by first | (simp [h31]; done) | (simp only [h31, BLs])), by repeat (first | exact subL_refl _ | refine subL_skip rfl ?_), hl⟩
    intro S1 hl
    refine xp_cond rfl rfl (fun h27 => ?_) (fun h27 => ?_)
    ·
     refine xs (by kernel_rfl) ?_; refine rm rfl ?_; refine re_end rfl ?_; refine xp_ret rfl ?_
     refine blk_ret (thn_ret (done_ret (ress_tmp rfl rfl) ⟨hl.keep, congrArg (Value.int .i64) (by unfold fieldsE; rw [h5, h9, h18, h27]; rfl)⟩))
    ·
     refine xp_seq rfl (xe_toE hl 36 (.bool ((!(s.last == b)) || !decide (bareS s = s))) ?_ rfl ?_)
     ·
      refine xp_draw (idx := [0, 1, 2, 3, 4, 5, 7, 6, 8, 9, 10]) rfl (by kernel_rfl) (by kernel_rfl) ?_; refine pr rfl (rd_fieldAddr rfl rfl (fa Tryz.underlying63 az63 rfl)) ?_; refine pk rfl (rl hl 0 rfl rfl (by kernel_rfl) rfl rfl) ?_; refine pm rfl ?_; refine pr rfl (rd_bin rfl rfl rfl rfl) ?_; refine pm rfl ?_; refine rp_bool (d := 41) rfl (fun h41 => ?_) (fun h41 => ?_)
      ·
       iterate 4 refine pz rfl ?_
       iterate 2 refine pm rfl ?_
       refine rp_end rfl ?_
       exact ⟨rfl, bl (by first | (simp [h41]; done) | (simp only [h41, BLs])), by repeat (first | exact subL_refl _ | refine subL_skip rfl ?_), hl⟩
      ·
       iterate 2 refine pk rfl (rd_load rfl rfl (loadN_of (z := 17) (by kernel_rfl) (by kernel_rfl) (hl.get 0 rfl) rfl)) ?_
       refine rp_callL hl rfl rfl rfl rfl rfl rfl rfl (spec106 _) ?_; rintro v S1 hk1 rfl hl; refine ⟨stays_of ⟨stays_load (X := True) rfl rfl (loadN_of (z := 17) (by kernel_rfl) (by kernel_rfl) (hl.get 0 rfl) rfl) (same_agg rfl (atoms_sign s)) rfl trivial, stays_load (X := True) rfl rfl (loadN_of (z := 17) (by kernel_rfl) (by kernel_rfl) (hl.get 0 rfl) rfl) (same_agg rfl (atoms_sign s)) rfl trivial, stays_load (X := True) rfl rfl (load1_of (by kernel_rfl) (hl.get 0 rfl) rfl) (same_atom (atom_bool _)) rfl trivial, trivial⟩, ?_⟩
       refine pr rfl (rd_bin rfl rfl rfl (neSign _ _ (bareS s) s)) ?_; iterate 2 refine pm rfl ?_
       refine rp_end rfl ?_
       exact ⟨rfl, bl (by first | (simp [h41]; done) | (simp only [h41, BLs])), by repeat (first | exact subL_refl _ | refine subL_skip rfl ?_), hl⟩
     intro S1 hl
     refine xp_cond rfl rfl (fun h36 => ?_) (fun h36 => ?_)
     ·
      refine xs (by kernel_rfl) ?_; refine rm rfl ?_; refine re_end rfl ?_; refine xp_ret rfl ?_
      refine blk_ret (thn_ret (done_ret (ress_tmp rfl rfl) ⟨hl.keep, congrArg (Value.int .i64) (by unfold fieldsE; rw [h5, h9, h18, h27, h36]; rfl)⟩))
     ·
      refine xp_skip rfl ?_; refine xs (by kernel_rfl) ?_; refine rm rfl ?_; refine re_end rfl ?_; refine xp_ret rfl ?_
      refine done_ret (ress_tmp rfl rfl) ⟨hl.keep, congrArg (Value.int .i64) (by unfold fieldsE; rw [h5, h9, h18, h27, h36]; rfl)⟩
end Go.Proofs.YtkmhecihkckcmaaGreatDoor
namespace Go.Proofs.YtkmhecihkckcmaaGreatDoor
open Go.Cm Go
set_option maxRecDepth 100000
variable {S : St}
noncomputable def c85 : Code := Tryz.f85.body.getD .skip
theorem spec85 (a : Option Addr) (cap : Nat) (C : List Sg) (k : Int) (hn : C.length ≤ 1000) (k0 : 0 ≤ k) (k1 : k < C.length) (hv : Signs S (.slice a C.length cap) C) : CC Tryz.prog KK 85 [.slice a C.length cap, .int .i64 k] S (fun v S' => Keep S S' ∧ v = .bool (shapedB C k)) := by
 refine cc_enter (c := c85) (n := 81) Tryz.func85 rfl rfl rfl (by kernel_rfl) rfl rfl ?_
 have hl := Hold.start S
 obtain ⟨b, o, cs, rfl, hrow, hall⟩ := hv.row (by omega)
 refine xs (by kernel_rfl) ?_; refine rm rfl ?_; refine re_end rfl ?_; refine xs (by kernel_rfl) ?_; iterate 2 refine rm rfl ?_
 refine rr rfl (rd_indexAddr rfl rfl rfl (indexAddr_slice (z := 17) Tryz.underlying22 (by kernel_rfl) ⟨by first | omega | (simp at *; omega), by first | omega | (simp at *; omega)⟩)) ?_; refine rr rfl (rd_load rfl rfl (loadN_row (z := 17) (by kernel_rfl) (by kernel_rfl) (row_move (hl.since 0 rfl) hrow) (hall _ (by first | omega | (simp at *; omega)) (by first | omega | (simp at *; omega))))) ?_
 refine re_allocL hl rfl rfl rfl rfl rfl (z := [.int .i64 0, .int .i64 0, .int .i64 0, .int .i64 0, .bool false, .int .i64 0, .bool false, .bool false, .int .i64 0, .int .i64 0, .int .i64 0, .int .i64 0, .bool false, .int .i64 0, .int .i64 0, .int .i64 0, .int .i64 0]) (by kernel_rfl) ?_; intro B5 S5 hl; refine re_storeL hl 0 rfl rfl rfl rfl rfl rfl rfl (by kernel_rfl) rfl ?_; intro S1 hl; refine re_end rfl ?_; refine xp_seq rfl ?_; refine xp_block rfl ?_; refine xp_seq rfl (xe_toE hl 10 (.bool (decide (k > 0) && (((sgI C k).stem == 1) || ((sgI C k).stem == 2)))) ?_ rfl ?_)
 ·
  refine xg (by kernel_rfl) ?_; refine rm rfl ?_; refine rr rfl (rd_bin rfl rfl rfl rfl) ?_; refine rm rfl ?_; refine re_bool (d := 13) rfl (fun h13 => ?_) (fun h13 => ?_)
  ·
   refine rr rfl (rd_fieldAddr rfl rfl (fa Tryz.underlying63 az63 rfl)) ?_; refine rr rfl (rl hl 0 rfl rfl (by kernel_rfl) rfl rfl) ?_; refine rr rfl (rd_bin rfl rfl rfl rfl) ?_; refine rm rfl ?_; refine re_bool (d := 17) rfl (fun h17 => ?_) (fun h17 => ?_)
   ·
    iterate 3 refine rz rfl ?_
    iterate 3 refine rm rfl ?_
    refine re_end rfl ?_
    exact ⟨rfl, bl (by first | (simp [h17, h13]; done) | (simp only [h17, h13, BLs])), by repeat (first | exact subL_refl _ | refine subL_skip rfl ?_), hl⟩
   ·
    refine rr rfl (rd_fieldAddr rfl rfl (fa Tryz.underlying63 az63 rfl)) ?_; refine rr rfl (rl hl 0 rfl rfl (by kernel_rfl) rfl rfl) ?_; refine rr rfl (rd_bin rfl rfl rfl rfl) ?_; iterate 3 refine rm rfl ?_
    refine re_end rfl ?_
    exact ⟨rfl, bl (by first | (simp [h17, h13]; done) | (simp only [h17, h13, BLs])), by repeat (first | exact subL_refl _ | refine subL_skip rfl ?_), hl⟩
  ·
   iterate 8 refine rz rfl ?_
   iterate 2 refine rm rfl ?_
   refine re_end rfl ?_
   exact ⟨rfl, bl (by first | (simp [h13]; done) | (simp only [h13, BLs])), by repeat (first | exact subL_refl _ | refine subL_skip rfl ?_), hl⟩
 intro S1 hl
 refine xp_cond rfl rfl (fun h10 => ?_) (fun h10 => ?_)
 ·
  refine xs (by kernel_rfl) ?_; refine rm rfl ?_; refine re_end rfl ?_; refine xp_ret rfl ?_
  refine blk_ret (thn_ret (done_ret (ress_tmp rfl rfl) ⟨hl.keep, congrArg Value.bool (by unfold shapedB; rw [h10]; rfl)⟩))
 ·
  refine xp_seq rfl (xe_toE hl 23 (.bool ((sgI C k).oblique && ((k + 1 == (C.length : Int)) || decide ((sgI C (k + 1)).place ≥ (sgI C k).place) || (sgI C (k + 1)).oblique))) ?_ rfl ?_)
  ·
   refine xp_draw (idx := [0, 1, 2, 3, 4, 5, 6, 7, 8, 9, 10, 11, 12, 13, 14, 15, 16, 17, 18, 19, 20, 21, 22, 23, 24, 25, 26, 27, 28]) rfl (by kernel_rfl) (by kernel_rfl) ?_; refine pr rfl (rd_fieldAddr rfl rfl (fa Tryz.underlying63 az63 rfl)) ?_; refine pk rfl (rl hl 0 rfl rfl (by kernel_rfl) rfl rfl) ?_; refine pm rfl ?_; refine rp_bool (d := 26) rfl (fun h26 => ?_) (fun h26 => ?_)
   ·
    refine pm rfl ?_; refine pr rfl (rd_bin rfl rfl rfl (i6 (by first | omega | (simp at *; omega)))) ?_; refine pm rfl ?_; refine pk rfl (rd_len rfl rfl (len_slice Tryz.underlying22)) ?_; refine pr rfl (rd_bin rfl rfl rfl rfl) ?_; refine pm rfl ?_; refine rp_bool (d := 32) rfl (fun h32 => ?_) (fun h32 => ?_)
    ·
     iterate 9 refine pz rfl ?_
     iterate 2 refine pm rfl ?_
     iterate 6 refine pz rfl ?_
     iterate 3 refine pm rfl ?_
     refine rp_end rfl ?_
     exact ⟨rfl, bl (by first | (simp [h32, h26]; done) | (simp only [h32, h26, BLs])), by repeat (first | exact subL_refl _ | refine subL_skip rfl ?_), hl⟩
    ·
     iterate 2 refine pm rfl ?_
     refine pr rfl (rd_bin rfl rfl rfl (i6 (by first | omega | (simp at *; omega)))) ?_; refine pr rfl (rd_indexAddr rfl rfl rfl (indexAddr_slice (z := 17) Tryz.underlying22 (by kernel_rfl) ⟨by first | omega | (simp at *; omega), by first | omega | (simp at *; omega)⟩)) ?_; refine pr rfl (rd_fieldAddr rfl rfl (fa Tryz.underlying63 az63 rfl)) ?_; refine pk rfl (rd_load rfl rfl (load1_row (by kernel_rfl) (row_move (hl.since 0 rfl) hrow) (tk_nth (hall _ (by first | omega | (simp at *; omega)) (by first | omega | (simp at *; omega))) rfl))) ?_
     refine pr rfl (rd_fieldAddr rfl rfl (fa Tryz.underlying63 az63 rfl)) ?_; refine pk rfl (rl hl 0 rfl rfl (by kernel_rfl) rfl rfl) ?_; refine pr rfl (rd_bin rfl rfl rfl rfl) ?_; iterate 2 refine pm rfl ?_
     refine rp_bool (d := 43) rfl (fun h43 => ?_) (fun h43 => ?_)
     ·
      iterate 6 refine pz rfl ?_
      iterate 3 refine pm rfl ?_
      refine rp_end rfl ?_
      exact ⟨rfl, bl (by first | (simp [h43, h32, h26]; done) | (simp only [h43, h32, h26, BLs])), by repeat (first | exact subL_refl _ | refine subL_skip rfl ?_), hl⟩
     ·
      iterate 2 refine pm rfl ?_
      refine pr rfl (rd_bin rfl rfl rfl (i6 (by first | omega | (simp at *; omega)))) ?_; refine pr rfl (rd_indexAddr rfl rfl rfl (indexAddr_slice (z := 17) Tryz.underlying22 (by kernel_rfl) ⟨by first | omega | (simp at *; omega), by first | omega | (simp at *; omega)⟩)) ?_; refine pr rfl (rd_fieldAddr rfl rfl (fa Tryz.underlying63 az63 rfl)) ?_; refine pk rfl (rd_load rfl rfl (load1_row (by kernel_rfl) (row_move (hl.since 0 rfl) hrow) (tk_nth (hall _ (by first | omega | (simp at *; omega)) (by first | omega | (simp at *; omega))) rfl))) ?_; iterate 3 refine pm rfl ?_
      refine rp_end rfl ?_
      exact ⟨rfl, bl (by first | (simp [h43, h32, h26]; done) | (simp only [h43, h32, h26, BLs])), by repeat (first | exact subL_refl _ | refine subL_skip rfl ?_), hl⟩
   ·
    iterate 24 refine pz rfl ?_
    iterate 2 refine pm rfl ?_
    refine rp_end rfl ?_
    exact ⟨rfl, bl (by first | (simp [h26]; done) | (simp only [h26, BLs])), by repeat (first | exact subL_refl _ | refine subL_skip rfl ?_), hl⟩
  intro S1 hl
  refine xp_cond rfl rfl (fun h23 => ?_) (fun h23 => ?_)
  ·
   refine xs (by kernel_rfl) ?_; refine rm rfl ?_; refine re_end rfl ?_; refine xp_ret rfl ?_
   refine blk_ret (thn_ret (done_ret (ress_tmp rfl rfl) ⟨hl.keep, congrArg Value.bool (by unfold shapedB; rw [h10, h23]; rfl)⟩))
  ·
   refine xp_seq rfl (xe_toE hl 52 (.bool (decide (k > 0) && ((sgI C (k - 1)).place == (sgI C k).place))) ?_ rfl ?_)
   ·
    refine xp_draw (idx := [0, 1, 2, 3, 4, 5, 6, 7, 8, 9, 10, 11, 12, 13]) rfl (by kernel_rfl) (by kernel_rfl) ?_; refine pm rfl ?_; refine pr rfl (rd_bin rfl rfl rfl rfl) ?_; refine pm rfl ?_; refine rp_bool (d := 55) rfl (fun h55 => ?_) (fun h55 => ?_)
    ·
     iterate 2 refine pm rfl ?_
     refine pr rfl (rd_bin rfl rfl rfl (i6 (by first | omega | (simp at *; omega)))) ?_; refine pr rfl (rd_indexAddr rfl rfl rfl (indexAddr_slice (z := 17) Tryz.underlying22 (by kernel_rfl) ⟨by first | omega | (simp at *; omega), by first | omega | (simp at *; omega)⟩)) ?_; refine pr rfl (rd_fieldAddr rfl rfl (fa Tryz.underlying63 az63 rfl)) ?_; refine pk rfl (rd_load rfl rfl (load1_row (by kernel_rfl) (row_move (hl.since 0 rfl) hrow) (tk_nth (hall _ (by first | omega | (simp at *; omega)) (by first | omega | (simp at *; omega))) rfl))) ?_
     refine pr rfl (rd_fieldAddr rfl rfl (fa Tryz.underlying63 az63 rfl)) ?_; refine pk rfl (rl hl 0 rfl rfl (by kernel_rfl) rfl rfl) ?_; refine pr rfl (rd_bin rfl rfl rfl rfl) ?_; iterate 2 refine pm rfl ?_
     refine rp_end rfl ?_
     exact ⟨rfl, bl (by first | (simp [h55]; done) | (simp only [h55, BLs])), by repeat (first | exact subL_refl _ | refine subL_skip rfl ?_), hl⟩
    ·
     iterate 9 refine pz rfl ?_
     iterate 2 refine pm rfl ?_
     refine rp_end rfl ?_
     exact ⟨rfl, bl (by first | (simp [h55]; done) | (simp only [h55, BLs])), by repeat (first | exact subL_refl _ | refine subL_skip rfl ?_), hl⟩
   intro S1 hl
   refine xp_cond rfl rfl (fun h52 => ?_) (fun h52 => ?_)
   ·
    refine xs (by kernel_rfl) ?_; refine rm rfl ?_; refine re_end rfl ?_; refine xp_ret rfl ?_
    refine blk_ret (thn_ret (done_ret (ress_tmp rfl rfl) ⟨hl.keep, congrArg Value.bool (by unfold shapedB; rw [h10, h23, h52]; rfl)⟩))
   ·
    refine xp_skip rfl ?_; refine xe_sub (L' := [(5, ptrTo B5 0), (1, .int .i64 k), (0, .slice (some ⟨b, o, none⟩) C.length cap)]) ⟨rfl, rfl, rfl, trivial⟩ ?_; refine xp_seq rfl (xe_toE hl 4 (.bool (!(decide (k < 2) && ((sgI C k).stem == 3) && ((sgI C 0).stem == 1)))) ?_ rfl ?_)
    ·
     refine xg (by kernel_rfl) ?_; refine rm rfl ?_; refine rr rfl (rd_bin rfl rfl rfl rfl) ?_; refine rm rfl ?_; refine re_bool (d := 68) rfl (fun h68 => ?_) (fun h68 => ?_)
     ·
      refine rr rfl (rd_fieldAddr rfl rfl (fa Tryz.underlying63 az63 rfl)) ?_; refine rr rfl (rl hl 0 rfl rfl (by kernel_rfl) rfl rfl) ?_; refine rr rfl (rd_bin rfl rfl rfl rfl) ?_; iterate 2 refine rm rfl ?_
      refine re_bool (d := 73) rfl (fun h73 => ?_) (fun h73 => ?_)
      ·
       refine rm rfl ?_; refine rr rfl (rd_indexAddr rfl rfl rfl (indexAddr_slice (z := 17) Tryz.underlying22 (by kernel_rfl) ⟨by first | omega | (simp at *; omega), by first | omega | (simp at *; omega)⟩)) ?_; refine rr rfl (rd_fieldAddr rfl rfl (fa Tryz.underlying63 az63 rfl)) ?_; refine rr rfl (rd_load rfl rfl (load1_row (by kernel_rfl) (row_move (hl.since 0 rfl) hrow) (tk_nth (hall _ (by first | omega | (simp at *; omega)) (by first | omega | (simp at *; omega))) rfl))) ?_; refine rr rfl (rd_bin rfl rfl rfl rfl) ?_; refine rm rfl ?_; refine rr rfl (rd_un rfl rfl rfl) ?_; refine rm rfl ?_
       refine re_end rfl ?_
       exact ⟨rfl, bl (by first | (simp [h73, h68]; done) | (simp only [h73, h68, BLs])), by repeat (first | exact subL_refl _ | refine subL_skip rfl ?_), hl⟩
      ·
       iterate 5 refine rz rfl ?_
       refine rm rfl ?_; refine rr rfl (rd_un rfl rfl rfl) ?_; refine rm rfl ?_; refine re_end rfl ?_
       exact ⟨rfl, bl (by first | (simp [h73, h68]; done) | (simp only [h73, h68, BLs])), by repeat (first | exact subL_refl _ | refine subL_skip rfl ?_), hl⟩
     ·
      iterate 3 refine rz rfl ?_
      iterate 2 refine rm rfl ?_
      iterate 5 refine rz rfl ?_
      refine rm rfl ?_; refine rr rfl (rd_un rfl rfl rfl) ?_; refine rm rfl ?_; refine re_end rfl ?_
      exact ⟨rfl, bl (by first | (simp [h68]; done) | (simp only [h68, BLs])), by repeat (first | exact subL_refl _ | refine subL_skip rfl ?_), hl⟩
    intro S1 hl
    refine xp_ret rfl ?_
    refine done_ret (ress_tmp rfl rfl) ⟨hl.keep, congrArg Value.bool (by unfold shapedB; rw [h10, h23, h52]; rfl)⟩
end Go.Proofs.YtkmhecihkckcmaaGreatDoor
namespace Go.Proofs.YtkmhecihkckcmaaGreatDoor
open Go.Cm Go
set_option maxRecDepth 100000
variable {S : St}
def iv (x : Int) : Value := .int .i64 x
def Ints (S : St) (v : Value) (l : List Int) : Prop := SliceAt S 3 1 v (l.map fun x => [iv x])
theorem Ints.move {S S' : St} (h : RK S S') {v : Value} {l : List Int} (hs : Ints S v l) : Ints S' v l := SliceAt.move h hs
theorem Ints.is {S : St} {v : Value} {l : List Int} (h : Ints S v l) : ∃ a cap, v = .slice a l.length cap := by
 obtain ⟨a, cap, e⟩ := SliceAt.is h
 exact ⟨a, cap, by simpa using e⟩
theorem Ints.elem {S : St} {a : Option Addr} {len cap : Nat} {l : List Int} (h : Ints S (.slice a len cap) l) {k : Nat} {x : Int} (hk : nth l k = some x) :
  ∃ b o cs, a = some ⟨b, o, none⟩ ∧ len = l.length ∧ RowAt S b 3 cs ∧ takeN 1 (dropN (o + k * 1) cs) = some [iv x] := by
 obtain ⟨b, o, cs, h1, h2, h3, h4⟩ := SliceAt.elem h (nth_map (fun x => [iv x]) hk)
 exact ⟨b, o, cs, h1, by simpa using h2, h3, h4⟩
theorem ints_nil (S : St) : Ints S (.slice none 0 0) [] := .inl ⟨rfl, .inl rfl⟩
theorem flatI : ∀ l : List Int, (l.map fun x => [iv x]).flatten = l.map iv
 | [] => rfl
 | x :: l => by rw [List.map_cons, List.flatten_cons, flatI l]; rfl
def GrowI (S0 S : St) (v : Value) (l : List Int) : Prop := Grow S0 S ⟨v, 3, 1, l.map iv, l.length⟩
theorem growI {S0 S : St} {v : Value} {l : List Int} (h : Grow S0 S ⟨v, 3, 1, l.map iv, l.length⟩) : Ints S v l :=
 Grow.sliceAt (g := ⟨v, 3, 1, l.map iv, l.length⟩) h (by simp) (flatI l).symm (fun x hx => by
  obtain ⟨s, _, rfl⟩ := List.mem_map.1 hx
  rfl)
noncomputable def c67 : Code := Tryz.f67.body.getD .skip
theorem spec67 (a : Option Addr) (cap : Nat) (C : List Sg) (hn : C.length ≤ 1000) (hv : Signs S (.slice a C.length cap) C) : CC Tryz.prog KK 67 [.slice a C.length cap] S (fun v S' => Keep S S' ∧ v = tupV [.int .i64 (ligCheck C).1, .int .i64 (ligCheck C).2]) := by
 refine cc_enter (c := c67) (n := 39) Tryz.func67 rfl rfl rfl (by kernel_rfl) rfl rfl ?_
 have hl := Hold.start S
 refine xs (by kernel_rfl) ?_; iterate 2 refine rm rfl ?_
 refine re_end rfl ?_; refine xp_seq rfl ?_; refine xp_seq rfl (xe_toE hl 14 (.bool (ligB C)) ?_ rfl ?_)
 ·
  refine xg (by kernel_rfl) ?_; refine rm rfl ?_; refine rr rfl (rd_len rfl rfl (len_slice Tryz.underlying22)) ?_; refine rr rfl (rd_bin rfl rfl rfl rfl) ?_; refine rm rfl ?_; refine re_bool (d := 10) rfl (fun h10 => ?_) (fun h10 => ?_)
  ·
   iterate 3 refine rz rfl ?_
   refine rm rfl ?_; refine re_end rfl ?_
   exact ⟨rfl, bl (by unfold ligB; simp only [h10, BLs]), by repeat (first | exact subL_refl _ | refine subL_skip rfl ?_), hl⟩
  ·
   refine rm rfl ?_; refine rr rfl (rd_len rfl rfl (len_slice Tryz.underlying22)) ?_; refine rr rfl (rd_bin rfl rfl rfl rfl) ?_; refine rm rfl ?_; refine re_end rfl ?_
   exact ⟨rfl, bl (by unfold ligB; simp only [h10, BLs]), by repeat (first | exact subL_refl _ | refine subL_skip rfl ?_), hl⟩
 intro S1 hl
 refine xp_cond rfl rfl (fun h14 => ?_) (fun h14 => ?_)
 ·
  refine xs (by kernel_rfl) ?_; iterate 2 refine rm rfl ?_
  refine re_end rfl ?_; refine xp_ret rfl ?_
  refine thn_ret (done_ret (ress_tmp rfl (ress_tmp rfl rfl)) ⟨hl.keep, res2 (by unfold ligCheck; rw [h14]; rfl)⟩)
 ·
  refine xp_skip rfl ?_; refine xp_seq rfl ?_; refine xs (by kernel_rfl) ?_; refine rm rfl ?_; refine rr rfl (rd_len rfl rfl (len_slice Tryz.underlying22)) ?_; refine rm rfl ?_; refine re_end rfl ?_; refine xp_block rfl ?_
  -- LOOP
  have hck : ligCheck C = ligE C.length C 0 := by unfold ligCheck; rw [h14]; rfl
  have hne : 0 < C.length := by unfold ligB at h14; simp at h14; omega
  obtain ⟨b, o, cs, rfl, hrow, hall⟩ := hv.row hne
  refine xe_sub (L' := [(17, .int .i64 0), (16, .int .i64 C.length), (15, .slice (some ⟨b, o, none⟩) C.length cap), (0, .slice (some ⟨b, o, none⟩) C.length cap)]) ⟨rfl, rfl, rfl, rfl, trivial⟩ ?_
  refine xp_loop rfl (fun m Le S' => ∃ i : Nat, i ≤ C.length ∧ m = C.length - i ∧ SubE [(17, .int .i64 (i : Int)), (16, .int .i64 C.length), (15, .slice (some ⟨b, o, none⟩) C.length cap), (0, .slice (some ⟨b, o, none⟩) C.length cap)] Le ∧ ligE (C.length - i) C i = ligE C.length C 0 ∧ HoldG S [S] S' [] []) ?_ (m := C.length) ⟨0, by omega, by omega, ⟨rfl, rfl, rfl, rfl, trivial⟩, rfl, hl⟩
  clear hl; rintro m Le S' ⟨i, hi, rfl, hsub, hpr, hl⟩; refine xe_sub hsub ?_
  refine xs (by kernel_rfl) ?_; refine rr rfl (rd_bin rfl rfl rfl rfl) ?_; refine re_end rfl ?_; refine xp_seq rfl ?_; refine xp_cond rfl rfl (fun h18 => ?_) (fun h18 => ?_)
  ·
   have hlt : i < C.length := by have := of_decide_eq_true h18; omega
   refine xp_skip rfl ?_; refine xp_seq rfl ?_; refine xp_block rfl ?_; refine xs (by kernel_rfl) ?_; refine rm rfl ?_; refine rr rfl (rd_indexAddr rfl rfl rfl (indexAddr_slice (z := 17) Tryz.underlying22 (by kernel_rfl) ⟨by first | omega | (simp at *; omega), by first | omega | (simp at *; omega)⟩)) ?_; refine rr rfl (rd_load rfl rfl (loadN_row (z := 17) (by kernel_rfl) (by kernel_rfl) (row_move (hl.since 0 rfl) hrow) (hall _ (by first | omega | (simp at *; omega)) (by first | omega | (simp at *; omega))))) ?_
   refine re_allocL hl rfl rfl rfl rfl rfl (z := [.int .i64 0, .int .i64 0, .int .i64 0, .int .i64 0, .bool false, .int .i64 0, .bool false, .bool false, .int .i64 0, .int .i64 0, .int .i64 0, .int .i64 0, .bool false, .int .i64 0, .int .i64 0, .int .i64 0, .int .i64 0]) (by kernel_rfl) ?_; intro B5 S5 hl; refine rm rfl ?_; refine re_storeL hl 0 rfl rfl rfl rfl rfl rfl rfl (by kernel_rfl) rfl ?_; intro S1 hl; refine re_end rfl ?_; refine xp_seq rfl ?_; refine xs (by kernel_rfl) ?_; refine rr rfl (rd_load rfl rfl (loadN_of (z := 17) (by kernel_rfl) (by kernel_rfl) (hl.get 0 rfl) rfl)) ?_
   refine rm rfl ?_; refine rr rfl (rd_bin rfl rfl rfl (i6 (by first | omega | (simp at *; omega)))) ?_; refine rm rfl ?_; refine rr rfl (rd_len rfl rfl (len_slice Tryz.underlying22)) ?_; refine rr rfl (rd_bin rfl rfl rfl rfl) ?_
   refine re_callL hl rfl rfl rfl rfl rfl rfl rfl (spec84 (sgI C i) _) ?_; rintro v S1 hk1 rfl hl
   refine rm rfl ?_; refine re_end rfl ?_; refine xs (by kernel_rfl) ?_; refine rm rfl ?_; refine rr rfl (rd_bin rfl rfl rfl rfl) ?_; refine re_end rfl ?_; refine xp_cond rfl rfl (fun h30 => ?_) (fun h30 => ?_)
   ·
    refine xs (by kernel_rfl) ?_; iterate 4 refine rm rfl ?_
    refine re_end rfl ?_; refine xp_ret rfl ?_
    refine thn_ret (blk_ret (thn_ret (round_ret (blk_ret (thn_ret (done_ret (ress_tmp rfl (ress_tmp rfl rfl)) ⟨hl.keep, res2 (by rw [hck, ← hpr, show C.length - i = (C.length - (i + 1)) + 1 by omega, ligE_no (by rw [ligE1_f h30]; unfold fieldsAt; simpa using h30), ligE1_f h30] <;> rfl)⟩))))))
   ·
    refine xp_skip rfl ?_; refine xs (by kernel_rfl) ?_; iterate 2 refine rm rfl ?_
    refine re_callL hl rfl rfl rfl rfl rfl rfl rfl (spec85 _ cap C i hn (by omega) (by omega) (hv.move (hl.since 0 rfl))) ?_; rintro v S1 hk1 rfl hl
    refine rr rfl (rd_un rfl rfl rfl) ?_; refine re_end rfl ?_; refine xp_cond rfl rfl (fun h36 => ?_) (fun h36 => ?_)
    ·
     refine xs (by kernel_rfl) ?_; iterate 3 refine rm rfl ?_
     refine re_end rfl ?_; refine xp_ret rfl ?_
     refine blk_ret (thn_ret (round_ret (blk_ret (thn_ret (done_ret (ress_tmp rfl (ress_tmp rfl rfl)) ⟨hl.keep, res2 (by rw [hck, ← hpr, show C.length - i = (C.length - (i + 1)) + 1 by omega, ligE_no (by rw [ligE1_s h30 h36]; decide), ligE1_s h30 h36] <;> rfl)⟩)))))
    ·
     refine xp_skip rfl ?_; refine xg (by kernel_rfl) ?_; refine rr rfl (rd_bin rfl rfl rfl (i6 (by first | omega | (simp at *; omega)))) ?_; refine rm rfl ?_; refine re_end rfl ?_
     refine ⟨C.length - (i + 1), by omega, i + 1, by omega, rfl, ⟨rfl, rfl, rfl, rfl, trivial⟩, ?_, hl.sub (List.nil_sublist _)⟩
     rw [← hpr, show C.length - i = (C.length - (i + 1)) + 1 by omega, ligE_go (ligE1_ok h30 h36)]
  ·
   refine xp_exit rfl ?_; refine xs (by kernel_rfl) ?_; iterate 2 refine rm rfl ?_
   refine re_end rfl ?_; refine xp_ret rfl ?_
   refine done_ret (ress_tmp rfl (ress_tmp rfl rfl)) ⟨hl.keep, res2 (by rw [hck, ← hpr, show C.length - i = 0 by have := of_decide_eq_false h18; omega]; rfl)⟩
end Go.Proofs.YtkmhecihkckcmaaGreatDoor
namespace Go.Proofs.YtkmhecihkckcmaaGreatDoor
open Go.Cm Go
set_option maxRecDepth 100000
variable {S : St}
noncomputable def c107 : Code := Tryz.f107.body.getD .skip
theorem spec107 (a : Option Addr) (cap : Nat) (C : List Sg) (k : Int) (hn : C.length ≤ 1000) (h2 : 2 ≤ C.length) (k0 : 0 ≤ k) (k1 : k < C.length) (hv : Signs S (.slice a C.length cap) C) : CC Tryz.prog KK 107 [.slice a C.length cap, .int .i64 k] S (fun v S' => Keep S S' ∧ v = .int .i64 (ruleN C k 0)) := by
 refine cc_enter (c := c107) (n := 11) Tryz.func107 rfl rfl rfl (by kernel_rfl) rfl rfl ?_
 have hl := Hold.start S
 obtain ⟨b, o, cs, rfl, hrow, hall⟩ := hv.row (by omega)
 refine xs (by kernel_rfl) ?_; refine rm rfl ?_; refine re_end rfl ?_; refine xp_seq rfl ?_; refine xs (by kernel_rfl) ?_; iterate 2 refine rm rfl ?_
 refine rr rfl (rd_indexAddr rfl rfl rfl (indexAddr_slice (z := 17) Tryz.underlying22 (by kernel_rfl) ⟨by first | omega | (simp at *; omega), by first | omega | (simp at *; omega)⟩)) ?_; refine rr rfl (rd_fieldAddr rfl rfl (fa Tryz.underlying63 az63 rfl)) ?_; refine rr rfl (rd_load rfl rfl (load1_row (by kernel_rfl) (row_move (hl.since 0 rfl) hrow) (tk_nth (hall _ (by first | omega | (simp at *; omega)) (by first | omega | (simp at *; omega))) rfl))) ?_; refine rr rfl (rd_bin rfl rfl rfl rfl) ?_; refine re_end rfl ?_; refine xp_cond rfl rfl (fun h10 => ?_) (fun h10 => ?_)
 ·
  refine xs (by kernel_rfl) ?_; refine rm rfl ?_; refine re_end rfl ?_; refine xp_ret rfl ?_
  refine thn_ret (done_ret (ress_tmp rfl rfl) ⟨hl.keep, congrArg (Value.int .i64) (by show _ = rule1 C k; unfold rule1; rw [h10]; rfl)⟩)
 ·
  refine xp_skip rfl ?_; refine xs (by kernel_rfl) ?_; refine rm rfl ?_; refine re_end rfl ?_; refine xp_ret rfl ?_
  refine done_ret (ress_tmp rfl rfl) ⟨hl.keep, congrArg (Value.int .i64) (by show _ = rule1 C k; unfold rule1; rw [h10]; rfl)⟩
noncomputable def c108 : Code := Tryz.f108.body.getD .skip
theorem spec108 (a : Option Addr) (cap : Nat) (C : List Sg) (k : Int) (hn : C.length ≤ 1000) (h2 : 2 ≤ C.length) (k0 : 0 ≤ k) (k1 : k < C.length) (hv : Signs S (.slice a C.length cap) C) : CC Tryz.prog KK 108 [.slice a C.length cap, .int .i64 k] S (fun v S' => Keep S S' ∧ v = .int .i64 (ruleN C k 1)) := by
 refine cc_enter (c := c108) (n := 14) Tryz.func108 rfl rfl rfl (by kernel_rfl) rfl rfl ?_
 have hl := Hold.start S
 obtain ⟨b, o, cs, rfl, hrow, hall⟩ := hv.row (by omega)
 refine xs (by kernel_rfl) ?_; refine rm rfl ?_; refine re_end rfl ?_; refine xp_seq rfl ?_; refine xp_seq rfl (xe_toE hl 13 (.bool (decide (k < 2) && ((sgI C 0).stem == 1))) ?_ rfl ?_)
 ·
  refine xg (by kernel_rfl) ?_; refine rm rfl ?_; refine rr rfl (rd_bin rfl rfl rfl rfl) ?_; refine rm rfl ?_; refine re_bool (d := 7) rfl (fun h7 => ?_) (fun h7 => ?_)
  ·
   refine rm rfl ?_; refine rr rfl (rd_indexAddr rfl rfl rfl (indexAddr_slice (z := 17) Tryz.underlying22 (by kernel_rfl) ⟨by first | omega | (simp at *; omega), by first | omega | (simp at *; omega)⟩)) ?_; refine rr rfl (rd_fieldAddr rfl rfl (fa Tryz.underlying63 az63 rfl)) ?_; refine rr rfl (rd_load rfl rfl (load1_row (by kernel_rfl) (row_move (hl.since 0 rfl) hrow) (tk_nth (hall _ (by first | omega | (simp at *; omega)) (by first | omega | (simp at *; omega))) rfl))) ?_; refine rr rfl (rd_bin rfl rfl rfl rfl) ?_; refine rm rfl ?_; refine re_end rfl ?_
   exact ⟨rfl, bl (by first | (simp [h7]; done) | (simp only [h7, BLs])), by repeat (first | exact subL_refl _ | refine subL_skip rfl ?_), hl⟩
  ·
   iterate 5 refine rz rfl ?_
   refine rm rfl ?_; refine re_end rfl ?_
   exact ⟨rfl, bl (by first | (simp [h7]; done) | (simp only [h7, BLs])), by repeat (first | exact subL_refl _ | refine subL_skip rfl ?_), hl⟩
 intro S1 hl
 refine xp_cond rfl rfl (fun h13 => ?_) (fun h13 => ?_)
 ·
  refine xs (by kernel_rfl) ?_; refine rm rfl ?_; refine re_end rfl ?_; refine xp_ret rfl ?_
  refine thn_ret (done_ret (ress_tmp rfl rfl) ⟨hl.keep, congrArg (Value.int .i64) (by show _ = rule2 C k; unfold rule2; rw [h13]; rfl)⟩)
 ·
  refine xp_skip rfl ?_; refine xs (by kernel_rfl) ?_; refine rm rfl ?_; refine re_end rfl ?_; refine xp_ret rfl ?_
  refine done_ret (ress_tmp rfl rfl) ⟨hl.keep, congrArg (Value.int .i64) (by show _ = rule2 C k; unfold rule2; rw [h13]; rfl)⟩
noncomputable def c109 : Code := Tryz.f109.body.getD .skip
theorem spec109 (a : Option Addr) (cap : Nat) (C : List Sg) (k : Int) (hn : C.length ≤ 1000) (h2 : 2 ≤ C.length) (k0 : 0 ≤ k) (k1 : k < C.length) (hv : Signs S (.slice a C.length cap) C) : CC Tryz.prog KK 109 [.slice a C.length cap, .int .i64 k] S (fun v S' => Keep S S' ∧ v = .int .i64 (ruleN C k 2)) := by
 refine cc_enter (c := c109) (n := 22) Tryz.func109 rfl rfl rfl (by kernel_rfl) rfl rfl ?_
 have hl := Hold.start S
 obtain ⟨b, o, cs, rfl, hrow, hall⟩ := hv.row (by omega)
 refine xs (by kernel_rfl) ?_; refine rm rfl ?_; refine re_end rfl ?_; refine xp_seq rfl ?_; refine xs (by kernel_rfl) ?_; refine rm rfl ?_; refine rr rfl (rd_bin rfl rfl rfl rfl) ?_; refine re_end rfl ?_; refine xp_cond rfl rfl (fun h6 => ?_) (fun h6 => ?_)
 ·
  refine xs (by kernel_rfl) ?_; refine rm rfl ?_; refine re_end rfl ?_; refine xp_ret rfl ?_
  refine thn_ret (done_ret (ress_tmp rfl rfl) ⟨hl.keep, congrArg (Value.int .i64) (by show _ = rule3 C k; unfold rule3; rw [h6]; rfl)⟩)
 ·
  refine xp_skip rfl ?_; iterate 2 refine xp_seq rfl ?_
  refine xp_draw (idx := [0, 1, 2, 3, 4, 5, 6, 7, 8, 9, 10, 11, 12, 13, 14]) rfl (by kernel_rfl) (by kernel_rfl) ?_; refine pm rfl ?_; refine pr rfl (rd_indexAddr rfl rfl rfl (indexAddr_slice (z := 17) Tryz.underlying22 (by kernel_rfl) ⟨by first | omega | (simp at *; omega), by first | omega | (simp at *; omega)⟩)) ?_; refine pr rfl (rd_fieldAddr rfl rfl (fa Tryz.underlying63 az63 rfl)) ?_; refine pk rfl (rd_load rfl rfl (load1_row (by kernel_rfl) (row_move (hl.since 0 rfl) hrow) (tk_nth (hall _ (by first | omega | (simp at *; omega)) (by first | omega | (simp at *; omega))) rfl))) ?_
  refine pm rfl ?_; refine pr rfl (rd_indexAddr rfl rfl rfl (indexAddr_slice (z := 17) Tryz.underlying22 (by kernel_rfl) ⟨by first | omega | (simp at *; omega), by first | omega | (simp at *; omega)⟩)) ?_; refine pr rfl (rd_fieldAddr rfl rfl (fa Tryz.underlying63 az63 rfl)) ?_; refine pk rfl (rd_load rfl rfl (load1_row (by kernel_rfl) (row_move (hl.since 0 rfl) hrow) (tk_nth (hall _ (by first | omega | (simp at *; omega)) (by first | omega | (simp at *; omega))) rfl))) ?_; refine pr rfl (rd_bin rfl rfl rfl rfl) ?_; refine pm rfl ?_
  refine pr rfl (rd_indexAddr rfl rfl rfl (indexAddr_slice (z := 17) Tryz.underlying22 (by kernel_rfl) ⟨by first | omega | (simp at *; omega), by first | omega | (simp at *; omega)⟩)) ?_; refine pr rfl (rd_fieldAddr rfl rfl (fa Tryz.underlying63 az63 rfl)) ?_; refine pk rfl (rd_load rfl rfl (load1_row (by kernel_rfl) (row_move (hl.since 0 rfl) hrow) (tk_nth (hall _ (by first | omega | (simp at *; omega)) (by first | omega | (simp at *; omega))) rfl))) ?_; iterate 2 refine pr rfl (rd_bin rfl rfl rfl rfl) ?_
  refine rp_end rfl ?_; refine xp_cond rfl rfl (fun h21 => ?_) (fun h21 => ?_)
  ·
   refine xs (by kernel_rfl) ?_; refine rm rfl ?_; refine re_end rfl ?_; refine xp_ret rfl ?_
   refine thn_ret (done_ret (ress_tmp rfl rfl) ⟨hl.keep, congrArg (Value.int .i64) (by show _ = rule3 C k; unfold rule3; rw [h6, h21]; rfl)⟩)
  ·
   refine xp_skip rfl ?_; refine xs (by kernel_rfl) ?_; refine rm rfl ?_; refine re_end rfl ?_; refine xp_ret rfl ?_
   refine done_ret (ress_tmp rfl rfl) ⟨hl.keep, congrArg (Value.int .i64) (by show _ = rule3 C k; unfold rule3; rw [h6, h21]; rfl)⟩
noncomputable def c110 : Code := Tryz.f110.body.getD .skip
theorem spec110 (a : Option Addr) (cap : Nat) (C : List Sg) (k : Int) (hn : C.length ≤ 1000) (h2 : 2 ≤ C.length) (k0 : 0 ≤ k) (k1 : k < C.length) (hv : Signs S (.slice a C.length cap) C) : CC Tryz.prog KK 110 [.slice a C.length cap, .int .i64 k] S (fun v S' => Keep S S' ∧ v = .int .i64 (ruleN C k 3)) := by
 refine cc_enter (c := c110) (n := 33) Tryz.func110 rfl rfl rfl (by kernel_rfl) rfl rfl ?_
 have hl := Hold.start S
 obtain ⟨b, o, cs, rfl, hrow, hall⟩ := hv.row (by omega)
 refine xs (by kernel_rfl) ?_; refine rm rfl ?_; refine re_end rfl ?_; refine xp_seq rfl ?_; refine xp_seq rfl (xe_toE hl 32 (.bool ((k + 1 == (C.length : Int)) && !(sgI C (k - 1)).oblique && decide ((sgI C k).place < (sgI C (k - 1)).place))) ?_ rfl ?_)
 ·
  refine xp_draw (idx := [0, 1, 2, 3, 4, 5, 6, 7, 8, 9, 10, 11, 12, 13, 14, 15, 16, 17, 18, 19, 20, 21, 22, 23, 24, 25, 26, 27]) rfl (by kernel_rfl) (by kernel_rfl) ?_; refine pm rfl ?_; refine pr rfl (rd_bin rfl rfl rfl (i6 (by first | omega | (simp at *; omega)))) ?_; refine pm rfl ?_; refine pk rfl (rd_len rfl rfl (len_slice Tryz.underlying22)) ?_; refine pr rfl (rd_bin rfl rfl rfl rfl) ?_; refine pm rfl ?_; refine rp_bool (d := 10) rfl (fun h10 => ?_) (fun h10 => ?_)
  ·
   iterate 2 refine pm rfl ?_
   refine pr rfl (rd_bin rfl rfl rfl (i6 (by first | omega | (simp at *; omega)))) ?_; refine pr rfl (rd_indexAddr rfl rfl rfl (indexAddr_slice (z := 17) Tryz.underlying22 (by kernel_rfl) ⟨by first | omega | (simp at *; omega), by first | omega | (simp at *; omega)⟩)) ?_; refine pr rfl (rd_fieldAddr rfl rfl (fa Tryz.underlying63 az63 rfl)) ?_; refine pk rfl (rd_load rfl rfl (load1_row (by kernel_rfl) (row_move (hl.since 0 rfl) hrow) (tk_nth (hall _ (by first | omega | (simp at *; omega)) (by first | omega | (simp at *; omega))) rfl))) ?_; refine pr rfl (rd_un rfl rfl rfl) ?_
   iterate 2 refine pm rfl ?_
   refine rp_bool (d := 19) rfl (fun h19 => ?_) (fun h19 => ?_)
   ·
    iterate 2 refine pm rfl ?_
    refine pr rfl (rd_indexAddr rfl rfl rfl (indexAddr_slice (z := 17) Tryz.underlying22 (by kernel_rfl) ⟨by first | omega | (simp at *; omega), by first | omega | (simp at *; omega)⟩)) ?_; refine pr rfl (rd_fieldAddr rfl rfl (fa Tryz.underlying63 az63 rfl)) ?_; refine pk rfl (rd_load rfl rfl (load1_row (by kernel_rfl) (row_move (hl.since 0 rfl) hrow) (tk_nth (hall _ (by first | omega | (simp at *; omega)) (by first | omega | (simp at *; omega))) rfl))) ?_; iterate 2 refine pm rfl ?_
    refine pr rfl (rd_bin rfl rfl rfl (i6 (by first | omega | (simp at *; omega)))) ?_; refine pr rfl (rd_indexAddr rfl rfl rfl (indexAddr_slice (z := 17) Tryz.underlying22 (by kernel_rfl) ⟨by first | omega | (simp at *; omega), by first | omega | (simp at *; omega)⟩)) ?_; refine pr rfl (rd_fieldAddr rfl rfl (fa Tryz.underlying63 az63 rfl)) ?_; refine pk rfl (rd_load rfl rfl (load1_row (by kernel_rfl) (row_move (hl.since 0 rfl) hrow) (tk_nth (hall _ (by first | omega | (simp at *; omega)) (by first | omega | (simp at *; omega))) rfl))) ?_; refine pr rfl (rd_bin rfl rfl rfl rfl) ?_; refine pm rfl ?_
    refine rp_end rfl ?_
    exact ⟨rfl, bl (by first | (simp [h19, h10]; done) | (simp only [h19, h10, BLs])), by repeat (first | exact subL_refl _ | refine subL_skip rfl ?_), hl⟩
   ·
    iterate 12 refine pz rfl ?_
    refine pm rfl ?_; refine rp_end rfl ?_
    exact ⟨rfl, bl (by first | (simp [h19, h10]; done) | (simp only [h19, h10, BLs])), by repeat (first | exact subL_refl _ | refine subL_skip rfl ?_), hl⟩
  ·
   iterate 7 refine pz rfl ?_
   iterate 2 refine pm rfl ?_
   iterate 12 refine pz rfl ?_
   refine pm rfl ?_; refine rp_end rfl ?_
   exact ⟨rfl, bl (by first | (simp [h10]; done) | (simp only [h10, BLs])), by repeat (first | exact subL_refl _ | refine subL_skip rfl ?_), hl⟩
 intro S1 hl
 refine xp_cond rfl rfl (fun h32 => ?_) (fun h32 => ?_)
 ·
  refine xs (by kernel_rfl) ?_; refine rm rfl ?_; refine re_end rfl ?_; refine xp_ret rfl ?_
  refine thn_ret (done_ret (ress_tmp rfl rfl) ⟨hl.keep, congrArg (Value.int .i64) (by show _ = rule4 C k; unfold rule4; rw [h32]; rfl)⟩)
 ·
  refine xp_skip rfl ?_; refine xs (by kernel_rfl) ?_; refine rm rfl ?_; refine re_end rfl ?_; refine xp_ret rfl ?_
  refine done_ret (ress_tmp rfl rfl) ⟨hl.keep, congrArg (Value.int .i64) (by show _ = rule4 C k; unfold rule4; rw [h32]; rfl)⟩
noncomputable def c111 : Code := Tryz.f111.body.getD .skip
theorem spec111 (a : Option Addr) (cap : Nat) (C : List Sg) (k : Int) (hn : C.length ≤ 1000) (h2 : 2 ≤ C.length) (k0 : 0 ≤ k) (k1 : k < C.length) (hv : Signs S (.slice a C.length cap) C) : CC Tryz.prog KK 111 [.slice a C.length cap, .int .i64 k] S (fun v S' => Keep S S' ∧ v = .int .i64 (ruleN C k 4)) := by
 refine cc_enter (c := c111) (n := 5) Tryz.func111 rfl rfl rfl (by kernel_rfl) rfl rfl ?_
 have hl := Hold.start S
 refine xs (by kernel_rfl) ?_; refine rm rfl ?_; refine re_end rfl ?_; refine xs (by kernel_rfl) ?_; refine rm rfl ?_; refine re_end rfl ?_; refine xp_ret rfl ?_
 refine done_ret (ress_tmp rfl rfl) ⟨hl.keep, congrArg (Value.int .i64) (rfl)⟩
end Go.Proofs.YtkmhecihkckcmaaGreatDoor
namespace Go.Proofs.YtkmhecihkckcmaaGreatDoor
open Go.Cm Go
set_option maxRecDepth 100000
variable {S : St}
def rulesL : List Value := [.func (.func 107) #[] #[], .func (.func 108) #[] #[], .func (.func 109) #[] #[], .func (.func 110) #[] #[], .func (.func 111) #[] #[]]
theorem rule_at {a : Option Addr} {cap : Nat} {C : List Sg} {k : Int} (hn : C.length ≤ 1000) (h2 : 2 ≤ C.length) (k0 : 0 ≤ k) (k1 : k < C.length) : ∀ {i : Nat}, i < 5 →
  ∃ f, nth rulesL i = some (.func (.func f) #[] #[]) ∧ ∀ S, Signs S (.slice a C.length cap) C → CC Tryz.prog KK f [.slice a C.length cap, .int .i64 k] S fun v S' => Keep S S' ∧ v = .int .i64 (ruleN C k i)
 | 0, _ => ⟨_, rfl, fun S h => spec107 a cap C k hn h2 k0 k1 h⟩
 | 1, _ => ⟨_, rfl, fun S h => spec108 a cap C k hn h2 k0 k1 h⟩
 | 2, _ => ⟨_, rfl, fun S h => spec109 a cap C k hn h2 k0 k1 h⟩
 | 3, _ => ⟨_, rfl, fun S h => spec110 a cap C k hn h2 k0 k1 h⟩
 | 4, _ => ⟨_, rfl, fun S h => spec111 a cap C k hn h2 k0 k1 h⟩
theorem ligValue_at {C : List Sg} {k : Int} {i : Nat} (hi : i < 5) (h : ∀ j, j < i → ruleN C k j = 0) (hne : ruleN C k i ≠ 0) : ligValue C k = ruleN C k i := by
 have e : ∀ x : Int, x = 0 → (x != 0) = false := fun x h => by rw [h]; rfl
 have n : ∀ x : Int, x ≠ 0 → (x != 0) = true := fun x h => by simpa using h
 unfold ligValue
 match i, hi with
 | 0, _ => rw [n (rule1 C k) hne]; rfl
 | 1, _ => rw [e (rule1 C k) (h 0 (by omega)), n (rule2 C k) hne]; rfl
 | 2, _ => rw [e (rule1 C k) (h 0 (by omega)), e (rule2 C k) (h 1 (by omega)), n (rule3 C k) hne]; rfl
 | 3, _ => rw [e (rule1 C k) (h 0 (by omega)), e (rule2 C k) (h 1 (by omega)), e (rule3 C k) (h 2 (by omega)), n (rule4 C k) hne]; rfl
 | 4, _ => rw [e (rule1 C k) (h 0 (by omega)), e (rule2 C k) (h 1 (by omega)), e (rule3 C k) (h 2 (by omega)), e (rule4 C k) (h 3 (by omega))]; rfl
noncomputable def c86 : Code := Tryz.f86.body.getD .skip
theorem spec86  : CC Tryz.prog KK 86 [] S (fun v S' => Keep S S' ∧ ∃ b, v = .slice (some ⟨b, 0, none⟩) 5 5 ∧ RowAt S' b 147 rulesL) := by
 refine cc_enter (c := c86) (n := 2) Tryz.func86 rfl rfl rfl (by kernel_rfl) rfl rfl ?_
 have hl := Hold.start S
 refine xs (by kernel_rfl) ?_; refine rm rfl ?_; refine re_end rfl ?_; refine xs (by kernel_rfl) ?_; refine re_buildSliceR hl rfl rfl rfl rfl rfl Tryz.underlying145 rfl (c := rulesL) (by kernel_rfl) ?_; intro B1 S1 hr1 hl; refine rm rfl ?_; refine re_end rfl ?_; refine xp_ret rfl ?_
 refine done_ret (ress_tmp rfl rfl) ⟨hl.keep, ⟨_, rfl, hr1⟩⟩
noncomputable def c68 : Code := Tryz.f68.body.getD .skip
theorem spec68 (a : Option Addr) (cap : Nat) (C : List Sg) (k : Int) (hn : C.length ≤ 1000) (h2 : 2 ≤ C.length) (k0 : 0 ≤ k) (k1 : k < C.length) (hv : Signs S (.slice a C.length cap) C) : CC Tryz.prog KK 68 [.slice a C.length cap, .int .i64 k] S (fun v S' => Keep S S' ∧ v = .int .i64 (ligValue C k)) := by
 refine cc_enter (c := c68) (n := 22) Tryz.func68 rfl rfl rfl (by kernel_rfl) rfl rfl ?_
 have hl := Hold.start S
 refine xs (by kernel_rfl) ?_; refine rm rfl ?_; refine re_end rfl ?_; refine xp_seq rfl ?_; refine xs (by kernel_rfl) ?_
 refine re_callL hl rfl rfl rfl rfl rfl rfl rfl spec86 ?_; rintro v S1 hk1 ⟨rb, rfl, hrr⟩ hl
 refine rr rfl (rd_len rfl rfl (len_slice Tryz.underlying145)) ?_; refine rm rfl ?_; refine re_end rfl ?_; refine xp_block rfl ?_
 -- LOOP
 have hl := hl.mark
 refine xe_sub (L' := [(10, .int .i64 0), (9, .int .i64 5), (8, .slice (some ⟨rb, 0, none⟩) 5 5), (0, .slice a C.length cap), (1, .int .i64 k)]) ⟨rfl, rfl, rfl, rfl, rfl, trivial⟩ ?_
 refine xp_loop rfl (fun m Le S' => ∃ i : Nat, i ≤ 5 ∧ m = 5 - i ∧ SubE [(10, .int .i64 (i : Int)), (9, .int .i64 5), (8, .slice (some ⟨rb, 0, none⟩) 5 5), (0, .slice a C.length cap), (1, .int .i64 k)] Le ∧ (∀ j, j < i → ruleN C k j = 0) ∧ HoldG S [S1, S] S' [] []) ?_ (m := 5) ⟨0, by omega, by omega, ⟨rfl, rfl, rfl, rfl, rfl, trivial⟩, fun j hj => (Nat.not_lt_zero j hj).elim, hl⟩
 clear hl; rintro m Le S' ⟨i, hi, rfl, hsub, hz, hl⟩; refine xe_sub hsub ?_
 refine xs (by kernel_rfl) ?_; refine rr rfl (rd_bin rfl rfl rfl rfl) ?_; refine re_end rfl ?_; refine xp_seq rfl ?_; refine xp_cond rfl rfl (fun h11 => ?_) (fun h11 => ?_)
 ·
  have hlt : i < 5 := by have := of_decide_eq_true h11; omega
  obtain ⟨f, hf, hcf⟩ := rule_at (a := a) (cap := cap) hn h2 k0 k1 hlt
  refine xp_skip rfl ?_; refine xp_seq rfl ?_; refine xp_block rfl ?_; refine xs (by kernel_rfl) ?_; refine rr rfl (rd_indexAddr rfl rfl rfl (indexAddr_slice (z := 1) Tryz.underlying145 (by kernel_rfl) ⟨by omega, by omega⟩)) ?_; refine rr rfl (rd_load rfl rfl (load1_row (by kernel_rfl) (row_move (hl.since 0 rfl) hrr) (v := .func (.func f) #[] #[]) (by rw [Nat.zero_add, Nat.mul_one]; exact hf))) ?_; refine rm rfl ?_; refine re_end rfl ?_; refine xs (by kernel_rfl) ?_; iterate 3 refine rm rfl ?_
  refine re_callL hl rfl rfl rfl rfl rfl rfl rfl (hcf _ (hv.move (hl.since 1 rfl))) ?_; rintro v S2 hk2 rfl hl
  refine rm rfl ?_; refine re_end rfl ?_; refine xs (by kernel_rfl) ?_; refine rm rfl ?_; refine rr rfl (rd_bin rfl rfl rfl rfl) ?_; refine re_end rfl ?_; refine xp_cond rfl rfl (fun h19 => ?_) (fun h19 => ?_)
  ·
   refine xs (by kernel_rfl) ?_; iterate 2 refine rm rfl ?_
   refine re_end rfl ?_; refine xp_ret rfl ?_
   refine blk_ret (thn_ret (round_ret (blk_ret (thn_ret (done_ret (ress_tmp rfl rfl) ⟨hl.keep, congrArg (Value.int .i64) ((ligValue_at hlt hz (by simpa using h19)).symm)⟩)))))
  ·
   refine xp_skip rfl ?_; refine xg (by kernel_rfl) ?_; refine rr rfl (rd_bin rfl rfl rfl (i6 (by omega))) ?_; refine rm rfl ?_; refine re_end rfl ?_
   refine ⟨5 - (i + 1), by omega, i + 1, by omega, rfl, ⟨rfl, rfl, rfl, rfl, rfl, trivial⟩, fun j hj => ?_, hl⟩
   rcases Nat.lt_succ_iff_lt_or_eq.1 hj with hj | rfl
   ·exact hz j hj
   ·simpa using h19
 ·
  refine xp_exit rfl ?_; refine xs (by kernel_rfl) ?_; refine rm rfl ?_; refine re_end rfl ?_; refine xp_ret rfl ?_
  refine done_ret (ress_tmp rfl rfl) ⟨hl.keep, congrArg (Value.int .i64) (by have h4 := hz 4 (by have := of_decide_eq_false h11; omega); exact absurd h4 (by show (3 : Int) ≠ 0; decide))⟩
end Go.Proofs.YtkmhecihkckcmaaGreatDoor
namespace Go.Proofs.YtkmhecihkckcmaaGreatDoor
open Go.Cm Go
set_option maxRecDepth 100000
variable {S : St}
theorem lig_two {C : List Sg} (h : (ligCheck C).1 = 0) : 2 ≤ C.length := by
 cases hb : ligB C with
 | true => unfold ligCheck at h; rw [hb] at h; cases h
 | false => unfold ligB at hb; simp at hb; omega
def valsTo (C : List Sg) (i : Nat) : List Value := (List.range' 0 C.length).map fun j => bif decide (j < i) then iv (ligValue C (j : Nat)) else iv 0
theorem valsTo_0 (C : List Sg) : valsTo C 0 = replL C.length [iv 0] := by
 rw [replL_range (iv 0) C.length 0]
 unfold valsTo
 refine List.map_congr_left fun j _ => ?_
 rw [decide_eq_false (Nat.not_lt_zero j)]; rfl
theorem valsTo_set {C : List Sg} {i : Nat} (h : i < C.length) : setN (0 + ((i : Nat) : Int).toNat * 1) (cellsL (.int .i64 (ligValue C (i : Nat)))) (valsTo C i) = some (valsTo C (i + 1)) := by
 have e := setN_range (fun j => bif decide (j < i) then iv (ligValue C (j : Nat)) else iv 0) (fun j => bif decide (j < i + 1) then iv (ligValue C (j : Nat)) else iv 0) C.length 0 i h (fun j hj => by
  have : decide (j < i) = decide (j < i + 1) := by
   have e : (j < i) ↔ (j < i + 1) := ⟨fun h => by omega, fun h => by omega⟩
   simp only [e]
  rw [this])
 rw [show 0 + ((i : Nat) : Int).toNat * 1 = i by omega]
 rw [show ((bif decide (0 + i < i + 1) then iv (ligValue C ((0 + i : Nat) : Int)) else iv 0) : Value) = iv (ligValue C (i : Nat)) by rw [decide_eq_true (by omega), Nat.zero_add]; rfl] at e
 exact e
theorem valsTo_all {C : List Sg} : valsTo C C.length = (ligValues C).map iv := by
 unfold valsTo ligValues
 rw [List.map_map]
 refine List.map_congr_left fun j hj => ?_
 rw [List.mem_range'_1] at hj
 rw [decide_eq_true (by omega)]; rfl
theorem ligValues_len (C : List Sg) : (ligValues C).length = C.length := by unfold ligValues; simp
theorem vals_own {S0 S : St} {Ts : List St} {B : Nat} {r : List (Nat × Blk)} {gs : List Gr} {C : List Sg} {i : Nat} (hi : i = C.length) (hl : HoldG S0 Ts S ((B, .cells (valsTo C i) 3 true true []) :: r) gs) : GrowI S0 S (.slice (some ⟨B, 0, none⟩) C.length C.length) (ligValues C) := by
 subst hi
 rw [valsTo_all] at hl
 refine .inr ⟨B, [], ?_, (hl.at_ _ _ (List.mem_cons_self ..)).2.1, (hl.at_ _ _ (List.mem_cons_self ..)).2.2, hl.get 0 rfl, by simp⟩
 show Value.slice _ _ _ = .slice _ (ligValues C).length (ligValues C).length
 rw [ligValues_len]
noncomputable def c56 : Code := Tryz.f56.body.getD .skip
theorem spec56 (a : Option Addr) (cap : Nat) (C : List Sg) (hn : C.length ≤ 1000) (hv : Signs S (.slice a C.length cap) C) : CC Tryz.prog KK 56 [.slice a C.length cap] S (fun v S' => Keep S S' ∧ (∃ w, v = tupV [w, .int .i64 (ligCheck C).1] ∧ GrowI S S' w (bif (ligCheck C).1 != 0 then [] else ligValues C))) := by
 refine cc_enter (c := c56) (n := 32) Tryz.func56 rfl rfl rfl (by kernel_rfl) rfl rfl ?_
 have hl := Hold.start S
 refine xs (by kernel_rfl) ?_; iterate 2 refine rm rfl ?_
 refine re_end rfl ?_; refine xp_seq rfl ?_; refine xs (by kernel_rfl) ?_; refine rm rfl ?_
 refine re_callL hl rfl rfl rfl rfl rfl rfl rfl (spec67 a cap C hn hv) ?_; rintro v S1 hk1 rfl hl
 iterate 5 refine rm rfl ?_
 refine re_end rfl ?_; refine xs (by kernel_rfl) ?_; refine rm rfl ?_; refine rr rfl (rd_bin rfl rfl rfl rfl) ?_; refine re_end rfl ?_; refine xp_cond rfl rfl (fun h14 => ?_) (fun h14 => ?_)
 ·
  refine xs (by kernel_rfl) ?_; iterate 3 refine rm rfl ?_
  refine re_end rfl ?_; refine xp_ret rfl ?_
  refine thn_ret (done_ret (ress_tmp rfl (ress_tmp rfl rfl)) ⟨hl.keep, ⟨_, rfl, by rw [h14]; exact .inl ⟨rfl, rfl, rfl⟩⟩⟩)
 ·
  refine xp_skip rfl ?_; refine xs (by kernel_rfl) ?_; refine rm rfl ?_; refine rr rfl (rd_len rfl rfl (len_slice Tryz.underlying22)) ?_; refine re_makeSliceK hl (m := C.length) rfl rfl rfl rfl rfl rfl rfl rfl rfl Tryz.underlying31 (z := .int .i64 0) (by kernel_rfl) (by kernel_rfl) (by unfold maxNeed; omega) ?_; intro B18 S1 hl; refine rm rfl ?_; refine re_end rfl ?_; refine xp_seq rfl ?_; refine xs (by kernel_rfl) ?_; refine rm rfl ?_; refine rr rfl (rd_len rfl rfl (len_slice Tryz.underlying22)) ?_; refine rm rfl ?_; refine re_end rfl ?_; refine xp_block rfl ?_
  -- LOOP
  have hok : (ligCheck C).1 = 0 := by simpa using h14
  have h2 : 2 ≤ C.length := lig_two hok
  rw [show replL C.length (cellsL (Value.int .i64 0)) = valsTo C 0 from (valsTo_0 C).symm] at hl
  refine xe_sub (L' := [(21, .int .i64 0), (20, .int .i64 C.length), (6, .slice (some ⟨B18, 0, none⟩) C.length C.length), (3, .int .i64 0), (0, .slice a C.length cap)]) ⟨rfl, rfl, rfl, rfl, rfl, trivial⟩ ?_
  refine xp_loop rfl (fun m Le S' => ∃ i : Nat, i ≤ C.length ∧ m = C.length - i ∧ SubE [(21, .int .i64 (i : Int)), (20, .int .i64 C.length), (6, .slice (some ⟨B18, 0, none⟩) C.length C.length), (3, .int .i64 0), (0, .slice a C.length cap)] Le ∧ HoldG S [S] S' [(B18, .cells (valsTo C i) 3 true true [])] []) ?_ (m := C.length) ⟨0, by omega, by omega, ⟨rfl, rfl, rfl, rfl, rfl, trivial⟩, hl⟩
  clear hl; rintro m Le S' ⟨i, hi, rfl, hsub, hl⟩; refine xe_sub hsub ?_
  refine xs (by kernel_rfl) ?_; refine rr rfl (rd_bin rfl rfl rfl rfl) ?_; refine re_end rfl ?_; refine xp_seq rfl ?_; refine xp_cond rfl rfl (fun h22 => ?_) (fun h22 => ?_)
  ·
   have hlt : i < C.length := by have := of_decide_eq_true h22; omega
   refine xp_skip rfl ?_; refine xp_seq rfl ?_; refine xp_block rfl ?_; refine xs (by kernel_rfl) ?_; iterate 2 refine rm rfl ?_
   refine re_end rfl ?_; refine xg (by kernel_rfl) ?_; iterate 4 refine rm rfl ?_
   refine re_callL hl rfl rfl rfl rfl rfl rfl rfl (spec68 a cap C i hn h2 (by omega) (by omega) (hv.move (hl.since 0 rfl))) ?_; rintro v S1 hk1 rfl hl
   refine rr rfl (rd_indexAddr rfl rfl rfl (indexAddr_slice (z := 1) Tryz.underlying31 (by kernel_rfl) ⟨by omega, by omega⟩)) ?_; refine re_storeR hl 0 rfl rfl rfl rfl rfl rfl rfl (by kernel_rfl) (valsTo_set hlt) ?_; intro S1 hl; refine re_end rfl ?_; refine xg (by kernel_rfl) ?_; refine rr rfl (rd_bin rfl rfl rfl (i6 (by omega))) ?_; refine rm rfl ?_; refine re_end rfl ?_
   exact ⟨C.length - (i + 1), by omega, i + 1, by omega, rfl, ⟨rfl, rfl, rfl, rfl, rfl, trivial⟩, hl⟩
  ·
   refine xp_exit rfl ?_; refine xs (by kernel_rfl) ?_; iterate 3 refine rm rfl ?_
   refine re_end rfl ?_; refine xp_ret rfl ?_
   refine done_ret (ress_tmp rfl (ress_tmp rfl rfl)) ⟨hl.keep, ⟨_, by rw [hok], by rw [hok]; exact vals_own (by have := of_decide_eq_false h22; omega) hl⟩⟩
end Go.Proofs.YtkmhecihkckcmaaGreatDoor
namespace Go.Proofs.YtkmhecihkckcmaaGreatDoor
open Go.Cm Go
set_option maxRecDepth 100000
variable {S : St}
theorem class_none {k : Int} (h5 : ((k == 1) || ((k == 2) || (k == 4))) = false) (h9 : (k == 3) = false) (h11 : ((k == 5) || ((k == 6) || ((k == 9) || (k == 10)))) = false) (h16 : ((k == 7) || ((k == 8) || ((k == 11) || (k == 12)))) = false) :
  tupV [.int .i64 0, .int .i64 8] = tupV [.int .i64 (classI k), .int .i64 (bif decide (k < 1) || decide (k > 12) then 8 else 0)] := by
 have e : (decide (k < 1) || decide (k > 12)) = true := by
  simp at h5 h9 h11 h16
  by_cases h1 : 1 ≤ k
  ·by_cases h2 : k ≤ 12
   ·rcases kind_cases h1 h2 with rfl | rfl | rfl | rfl | rfl | rfl | rfl | rfl | rfl | rfl | rfl | rfl <;> simp at h5 h9 h11 h16
   ·simp; omega
  ·simp; omega
 unfold classI
 rw [e]
 rfl
noncomputable def c73 : Code := Tryz.f73.body.getD .skip
theorem spec73 (k : Int) : CC Tryz.prog KK 73 [.int .i64 k] S (fun v S' => Keep S S' ∧ v = tupV [.int .i64 (classI k), .int .i64 (bif decide (k < 1) || decide (k > 12) then 8 else 0)]) := by
 refine cc_enter (c := c73) (n := 21) Tryz.func73 rfl rfl rfl (by kernel_rfl) rfl rfl ?_
 have hl := Hold.start S
 refine xs (by kernel_rfl) ?_; iterate 2 refine rm rfl ?_
 refine re_end rfl ?_; refine xp_seq rfl ?_; refine xs (by kernel_rfl) ?_; refine rm rfl ?_; refine re_end rfl ?_; refine xp_block rfl ?_; refine xp_seq rfl (xe_toE hl 5 (.bool ((k == 1) || ((k == 2) || (k == 4)))) ?_ rfl ?_)
 ·
  refine xs (by kernel_rfl) ?_; refine rr rfl (rd_bin rfl rfl rfl rfl) ?_; refine rm rfl ?_; refine re_end rfl ?_; refine xp_cond rfl rfl (fun h5 => ?_) (fun h5 => ?_)
  ·
   refine xp_skip rfl ?_
   exact ⟨rfl, bl (by first | (simp [h5]; done) | (simp only [h5, BLs])), by repeat (first | exact subL_refl _ | refine subL_skip rfl ?_), hl⟩
  ·
   refine xs (by kernel_rfl) ?_; refine rr rfl (rd_bin rfl rfl rfl rfl) ?_; refine rm rfl ?_; refine re_end rfl ?_; refine xp_cond rfl rfl (fun h1005 => ?_) (fun h1005 => ?_)
   ·
    refine xp_skip rfl ?_
    exact ⟨rfl, bl (by first | (simp [h1005, h5]; done) | (simp only [h1005, h5, BLs])), by repeat (first | exact subL_refl _ | refine subL_skip rfl ?_), hl⟩
   ·
    refine xg (by kernel_rfl) ?_; refine rr rfl (rd_bin rfl rfl rfl rfl) ?_; refine rm rfl ?_; refine re_end rfl ?_
    exact ⟨rfl, bl (by first | (simp [h1005, h5]; done) | (simp only [h1005, h5, BLs])), by repeat (first | exact subL_refl _ | refine subL_skip rfl ?_), hl⟩
 intro S1 hl
 refine xp_cond rfl rfl (fun h5 => ?_) (fun h5 => ?_)
 ·
  refine xs (by kernel_rfl) ?_; iterate 2 refine rm rfl ?_
  refine re_end rfl ?_; refine xp_ret rfl ?_
  refine blk_ret (thn_ret (done_ret (ress_tmp rfl (ress_tmp rfl rfl)) ⟨hl.keep, by rcases (show k = 1 ∨ k = 2 ∨ k = 4 by simpa using h5) with rfl | rfl | rfl <;> rfl⟩))
 ·
  refine xs (by kernel_rfl) ?_; refine rr rfl (rd_bin rfl rfl rfl rfl) ?_; refine rm rfl ?_; refine re_end rfl ?_; refine xp_cond rfl rfl (fun h9 => ?_) (fun h9 => ?_)
  ·
   refine xs (by kernel_rfl) ?_; iterate 2 refine rm rfl ?_
   refine re_end rfl ?_; refine xp_ret rfl ?_
   refine blk_ret (thn_ret (done_ret (ress_tmp rfl (ress_tmp rfl rfl)) ⟨hl.keep, by obtain rfl : k = 3 := (by simpa using h9); rfl⟩))
  ·
   refine xp_seq rfl (xe_toE hl 11 (.bool ((k == 5) || ((k == 6) || ((k == 9) || (k == 10))))) ?_ rfl ?_)
   ·
    refine xs (by kernel_rfl) ?_; refine rr rfl (rd_bin rfl rfl rfl rfl) ?_; refine rm rfl ?_; refine re_end rfl ?_; refine xp_cond rfl rfl (fun h11 => ?_) (fun h11 => ?_)
    ·
     refine xp_skip rfl ?_
     exact ⟨rfl, bl (by first | (simp [h11]; done) | (simp only [h11, BLs])), by repeat (first | exact subL_refl _ | refine subL_skip rfl ?_), hl⟩
    ·
     refine xs (by kernel_rfl) ?_; refine rr rfl (rd_bin rfl rfl rfl rfl) ?_; refine rm rfl ?_; refine re_end rfl ?_; refine xp_cond rfl rfl (fun h1011 => ?_) (fun h1011 => ?_)
     ·
      refine xp_skip rfl ?_
      exact ⟨rfl, bl (by first | (simp [h1011, h11]; done) | (simp only [h1011, h11, BLs])), by repeat (first | exact subL_refl _ | refine subL_skip rfl ?_), hl⟩
     ·
      refine xs (by kernel_rfl) ?_; refine rr rfl (rd_bin rfl rfl rfl rfl) ?_; refine rm rfl ?_; refine re_end rfl ?_; refine xp_cond rfl rfl (fun h2011 => ?_) (fun h2011 => ?_)
      ·
       refine xp_skip rfl ?_
       exact ⟨rfl, bl (by first | (simp [h2011, h1011, h11]; done) | (simp only [h2011, h1011, h11, BLs])), by repeat (first | exact subL_refl _ | refine subL_skip rfl ?_), hl⟩
      ·
       refine xg (by kernel_rfl) ?_; refine rr rfl (rd_bin rfl rfl rfl rfl) ?_; refine rm rfl ?_; refine re_end rfl ?_
       exact ⟨rfl, bl (by first | (simp [h2011, h1011, h11]; done) | (simp only [h2011, h1011, h11, BLs])), by repeat (first | exact subL_refl _ | refine subL_skip rfl ?_), hl⟩
   intro S1 hl
   refine xp_cond rfl rfl (fun h11 => ?_) (fun h11 => ?_)
   ·
    refine xs (by kernel_rfl) ?_; iterate 2 refine rm rfl ?_
    refine re_end rfl ?_; refine xp_ret rfl ?_
    refine blk_ret (thn_ret (done_ret (ress_tmp rfl (ress_tmp rfl rfl)) ⟨hl.keep, by rcases (show k = 5 ∨ k = 6 ∨ k = 9 ∨ k = 10 by simpa using h11) with rfl | rfl | rfl | rfl <;> rfl⟩))
   ·
    refine xp_seq rfl (xe_toE hl 16 (.bool ((k == 7) || ((k == 8) || ((k == 11) || (k == 12))))) ?_ rfl ?_)
    ·
     refine xs (by kernel_rfl) ?_; refine rr rfl (rd_bin rfl rfl rfl rfl) ?_; refine rm rfl ?_; refine re_end rfl ?_; refine xp_cond rfl rfl (fun h16 => ?_) (fun h16 => ?_)
     ·
      refine xp_skip rfl ?_
      exact ⟨rfl, bl (by first | (simp [h16]; done) | (simp only [h16, BLs])), by repeat (first | exact subL_refl _ | refine subL_skip rfl ?_), hl⟩
     ·
      refine xs (by kernel_rfl) ?_; refine rr rfl (rd_bin rfl rfl rfl rfl) ?_; refine rm rfl ?_; refine re_end rfl ?_; refine xp_cond rfl rfl (fun h1016 => ?_) (fun h1016 => ?_)
      ·
       refine xp_skip rfl ?_
       exact ⟨rfl, bl (by first | (simp [h1016, h16]; done) | (simp only [h1016, h16, BLs])), by repeat (first | exact subL_refl _ | refine subL_skip rfl ?_), hl⟩
      ·
       refine xs (by kernel_rfl) ?_; refine rr rfl (rd_bin rfl rfl rfl rfl) ?_; refine rm rfl ?_; refine re_end rfl ?_; refine xp_cond rfl rfl (fun h2016 => ?_) (fun h2016 => ?_)
       ·
        refine xp_skip rfl ?_
        exact ⟨rfl, bl (by first | (simp [h2016, h1016, h16]; done) | (simp only [h2016, h1016, h16, BLs])), by repeat (first | exact subL_refl _ | refine subL_skip rfl ?_), hl⟩
       ·
        refine xg (by kernel_rfl) ?_; refine rr rfl (rd_bin rfl rfl rfl rfl) ?_; refine rm rfl ?_; refine re_end rfl ?_
        exact ⟨rfl, bl (by first | (simp [h2016, h1016, h16]; done) | (simp only [h2016, h1016, h16, BLs])), by repeat (first | exact subL_refl _ | refine subL_skip rfl ?_), hl⟩
    intro S1 hl
    refine xp_cond rfl rfl (fun h16 => ?_) (fun h16 => ?_)
    ·
     refine xs (by kernel_rfl) ?_; iterate 2 refine rm rfl ?_
     refine re_end rfl ?_; refine xp_ret rfl ?_
     refine blk_ret (thn_ret (done_ret (ress_tmp rfl (ress_tmp rfl rfl)) ⟨hl.keep, by rcases (show k = 7 ∨ k = 8 ∨ k = 11 ∨ k = 12 by simpa using h16) with rfl | rfl | rfl | rfl <;> rfl⟩))
    ·
     refine xp_skip rfl ?_; refine xs (by kernel_rfl) ?_; iterate 2 refine rm rfl ?_
     refine re_end rfl ?_; refine xp_ret rfl ?_
     refine done_ret (ress_tmp rfl (ress_tmp rfl rfl)) ⟨hl.keep, class_none h5 h9 h11 h16⟩
noncomputable def c60 : Code := Tryz.f60.body.getD .skip
theorem spec60 (s : Sg) : CC Tryz.prog KK 60 [s.v] S (fun v S' => Keep S S' ∧ v = .int .i64 (classI s.kind)) := by
 refine cc_enter (c := c60) (n := 12) Tryz.func60 rfl rfl rfl (by kernel_rfl) rfl rfl ?_
 have hl := Hold.start S
 refine xs (by kernel_rfl) ?_; refine re_boxL hl rfl rfl rfl rfl rfl rfl ?_; intro B1 S1 hl; refine rm rfl ?_; refine re_end rfl ?_; refine xs (by kernel_rfl) ?_; refine rr rfl (rd_fieldAddr rfl rfl (fa Tryz.underlying63 az63 rfl)) ?_; refine rr rfl (rl hl 0 rfl rfl (by kernel_rfl) rfl rfl) ?_
 refine re_callL hl rfl rfl rfl rfl rfl rfl rfl (spec73 _) ?_; rintro v S1 hk1 rfl hl
 iterate 5 refine rm rfl ?_
 refine re_end rfl ?_; refine xs (by kernel_rfl) ?_; iterate 2 refine rm rfl ?_
 refine re_end rfl ?_; refine xp_ret rfl ?_
 refine done_ret (ress_tmp rfl rfl) ⟨hl.keep, rfl⟩
noncomputable def c117 : Code := Tryz.f117.body.getD .skip
theorem spec117 (s : Sg) : CC Tryz.prog KK 117 [s.v] S (fun v S' => Keep S S' ∧ v = (bareS s).v) := by
 refine cc_enter (c := c117) (n := 18) Tryz.func117 rfl rfl rfl (by kernel_rfl) rfl rfl ?_
 have hl := Hold.start S
 refine xs (by kernel_rfl) ?_; refine re_boxL hl rfl rfl rfl rfl rfl rfl ?_; intro B1 S1 hl; refine re_allocL hl rfl rfl rfl rfl rfl (z := [.int .i64 0, .int .i64 0, .int .i64 0, .int .i64 0, .bool false, .int .i64 0, .bool false, .bool false, .int .i64 0, .int .i64 0, .int .i64 0, .int .i64 0, .bool false, .int .i64 0, .int .i64 0, .int .i64 0, .int .i64 0]) (by kernel_rfl) ?_; intro B2 S2 hl; refine re_end rfl ?_; refine xs (by kernel_rfl) ?_; refine rr rfl (rd_fieldAddr rfl rfl (fa Tryz.underlying63 az63 rfl)) ?_; refine rr rfl (rl hl 1 rfl rfl (by kernel_rfl) rfl rfl) ?_
 refine rr rfl (rd_fieldAddr rfl rfl (fa Tryz.underlying63 az63 rfl)) ?_; refine rr rfl (rl hl 1 rfl rfl (by kernel_rfl) rfl rfl) ?_; refine rr rfl (rd_fieldAddr rfl rfl (fa Tryz.underlying63 az63 rfl)) ?_; refine rr rfl (rl hl 1 rfl rfl (by kernel_rfl) rfl rfl) ?_; refine rr rfl (rd_fieldAddr rfl rfl (fa Tryz.underlying63 az63 rfl)) ?_; refine rr rfl (rl hl 1 rfl rfl (by kernel_rfl) rfl rfl) ?_; refine rr rfl (rd_fieldAddr rfl rfl (fa Tryz.underlying63 az63 rfl)) ?_; refine rr rfl (rl hl 1 rfl rfl (by kernel_rfl) rfl rfl) ?_
 refine rr rfl (rd_fieldAddr rfl rfl (fa Tryz.underlying63 az63 rfl)) ?_; refine rr rfl (rl hl 1 rfl rfl (by kernel_rfl) rfl rfl) ?_; refine rr rfl (rd_fieldAddr rfl rfl (fa Tryz.underlying63 az63 rfl)) ?_; refine rr rfl (rl hl 1 rfl rfl (by kernel_rfl) rfl rfl) ?_; refine rr rfl (rd_build rfl rfl (v := (bareS s).v) (by rfl)) ?_; refine re_storeL hl 0 rfl rfl rfl rfl rfl rfl rfl (by kernel_rfl) rfl ?_; intro S1 hl; refine re_end rfl ?_; refine xp_ret rfl ?_
 refine done_ret (ress_cell rfl (loadN_of (z := 17) (by kernel_rfl) (by kernel_rfl) (hl.get 0 rfl) rfl) rfl) ⟨hl.keep, rfl⟩
end Go.Proofs.YtkmhecihkckcmaaGreatDoor
namespace Go.Proofs.YtkmhecihkckcmaaGreatDoor
open Go.Cm Go
set_option maxRecDepth 100000
variable {S : St}
theorem stays_len {n : Nat} {e : CkE} {S' : St} {t : TypeId} {x : Operand} {u : Value} (hop : e.op = .call ⟨.builtin .len, #[x], #[t]⟩) (hx : evE e.L x = some u) (hv : lenV Tryz.prog t u S' = some e.v) (hs : sameV 100000 e.v e.v = true) (hf : e.fr = none) : StayOne Tryz.prog n S' e := by
 unfold StayOne
 rw [hf]
 exact ⟨fun a ha => by rw [hop]; show lenV Tryz.prog t (a.ev x) S' = _; rw [ha.ev hx, hv], hs⟩
def noteE (C : List Sg) (k : Int) : Int := bif (sgI C k).kind != 4 then 8 else bif (decide ((sgI C k).place < -4) || decide ((sgI C k).place > 12)) || ((decide ((sgI C k).acc < -1) || decide ((sgI C k).acc > 2)) || (decide ((sgI C k).stem < 0) || decide ((sgI C k).stem > 3))) then 2 else bif (!((sgI C k).last == (k == (C.length : Int) - 1))) || !decide (sgI C k = bareS (sgI C k)) then 3 else bif decide (k > 0) && (((sgI C k).stem == 1) || ((sgI C k).stem == 2)) then 3 else bif (sgI C k).oblique && ((k == (C.length : Int) - 1) || decide ((sgI C (k + 1)).place ≥ (sgI C k).place) || (sgI C (k + 1)).oblique) then 3 else bif decide (k > 0) && ((sgI C k).place == (sgI C (k - 1)).place) then 3 else bif (k == 1) && ((sgI C k).stem == 3) && ((sgI C 0).stem == 1) then 3 else 0
theorem note_eq {C : List Sg} {k : Int} (k0 : 0 ≤ k) : noteE C k = ligE1 C k := by
 have e1 : (k == (C.length : Int) - 1) = (k + 1 == (C.length : Int)) := by rw [Bool.eq_iff_iff]; simp; omega
 have e2 : decide (sgI C k = bareS (sgI C k)) = decide (bareS (sgI C k) = sgI C k) := by simp only [eq_comm]
 have e3 : ((sgI C k).place == (sgI C (k - 1)).place) = ((sgI C (k - 1)).place == (sgI C k).place) := by rw [Bool.eq_iff_iff]; simp; omega
 have e4 : (decide (k < 2) && ((sgI C k).stem == 3) && ((sgI C 0).stem == 1)) = ((k == 1) && ((sgI C k).stem == 3) && ((sgI C 0).stem == 1)) := by
  by_cases hk : k = 0
  ·subst hk
   by_cases hs : (sgI C 0).stem = 3
   ·rw [hs]; rfl
   ·rw [show ((sgI C 0).stem == 3) = false by simpa using hs]; rfl
  ·rw [show decide (k < 2) = (k == 1) by rw [Bool.eq_iff_iff]; simp; omega]
 unfold noteE ligE1 fieldsAt fieldsE shapedB
 rw [e1, e2, e3, e4]
 generalize ((sgI C k).kind != 4) = A
 generalize (decide ((sgI C k).place < -4) || decide ((sgI C k).place > 12)) = B1
 generalize (decide ((sgI C k).acc < -1) || decide ((sgI C k).acc > 2)) = B2
 generalize (decide ((sgI C k).stem < 0) || decide ((sgI C k).stem > 3)) = B3
 generalize ((!((sgI C k).last == (k + 1 == (C.length : Int)))) || !decide (bareS (sgI C k) = sgI C k)) = C1
 generalize (decide (k > 0) && (((sgI C k).stem == 1) || ((sgI C k).stem == 2))) = D
 generalize ((sgI C k).oblique && ((k + 1 == (C.length : Int)) || decide ((sgI C (k + 1)).place ≥ (sgI C k).place) || (sgI C (k + 1)).oblique)) = E
 generalize (decide (k > 0) && ((sgI C (k - 1)).place == (sgI C k).place)) = Fb
 generalize ((k == 1) && ((sgI C k).stem == 3) && ((sgI C 0).stem == 1)) = Gb
 (cases A <;> first | rfl | (cases B1 <;> first | rfl | (cases B2 <;> first | rfl | (cases B3 <;> first | rfl | (cases C1 <;> first | rfl | (cases D <;> first | rfl | (cases E <;> first | rfl | (cases Fb <;> first | rfl | (cases Gb <;> first | rfl | rfl)))))))))
noncomputable def c89 : Code := Tryz.f89.body.getD .skip
theorem spec89 (a : Option Addr) (cap : Nat) (C : List Sg) (k : Int) (hn : C.length ≤ 1000) (k0 : 0 ≤ k) (k1 : k < C.length) (hv : Signs S (.slice a C.length cap) C) : CC Tryz.prog KK 89 [.slice a C.length cap, .int .i64 k] S (fun v S' => Keep S S' ∧ v = .int .i64 (noteE C k)) := by
 refine cc_enter (c := c89) (n := 125) Tryz.func89 rfl rfl rfl (by kernel_rfl) rfl rfl ?_
 have hl := Hold.start S
 obtain ⟨b, o, cs, rfl, hrow, hall⟩ := hv.row (by omega)
 refine xs (by kernel_rfl) ?_; refine rm rfl ?_; refine re_end rfl ?_; refine xs (by kernel_rfl) ?_; iterate 2 refine rm rfl ?_
 refine rr rfl (rd_indexAddr rfl rfl rfl (indexAddr_slice (z := 17) Tryz.underlying22 (by kernel_rfl) ⟨by first | omega | (simp at *; omega), by first | omega | (simp at *; omega)⟩)) ?_; refine rr rfl (rd_load rfl rfl (loadN_row (z := 17) (by kernel_rfl) (by kernel_rfl) (row_move (hl.since 0 rfl) hrow) (hall _ (by first | omega | (simp at *; omega)) (by first | omega | (simp at *; omega))))) ?_
 refine re_allocL hl rfl rfl rfl rfl rfl (z := [.int .i64 0, .int .i64 0, .int .i64 0, .int .i64 0, .bool false, .int .i64 0, .bool false, .bool false, .int .i64 0, .int .i64 0, .int .i64 0, .int .i64 0, .bool false, .int .i64 0, .int .i64 0, .int .i64 0, .int .i64 0]) (by kernel_rfl) ?_; intro B5 S5 hl; refine re_storeL hl 0 rfl rfl rfl rfl rfl rfl rfl (by kernel_rfl) rfl ?_; intro S1 hl; refine re_end rfl ?_; refine xp_seq rfl ?_; refine xp_block rfl ?_; refine xs (by kernel_rfl) ?_; refine rr rfl (rd_fieldAddr rfl rfl (fa Tryz.underlying63 az63 rfl)) ?_
 refine rr rfl (rl hl 0 rfl rfl (by kernel_rfl) rfl rfl) ?_; refine rr rfl (rd_bin rfl rfl rfl rfl) ?_; refine rm rfl ?_; refine re_end rfl ?_; refine xp_cond rfl rfl (fun h10 => ?_) (fun h10 => ?_)
 ·
  refine xs (by kernel_rfl) ?_; refine rm rfl ?_; refine re_end rfl ?_; refine xp_ret rfl ?_
  refine blk_ret (thn_ret (done_ret (ress_tmp rfl rfl) ⟨hl.keep, congrArg (Value.int .i64) (by unfold noteE; rw [h10]; rfl)⟩))
 ·
  refine xp_seq rfl (xe_toE hl 14 (.bool ((decide ((sgI C k).place < -4) || decide ((sgI C k).place > 12)) || ((decide ((sgI C k).acc < -1) || decide ((sgI C k).acc > 2)) || (decide ((sgI C k).stem < 0) || decide ((sgI C k).stem > 3))))) ?_ rfl ?_)
  ·
   refine xs (by kernel_rfl) ?_; refine rr rfl (rd_fieldAddr rfl rfl (fa Tryz.underlying63 az63 rfl)) ?_; refine rr rfl (rl hl 0 rfl rfl (by kernel_rfl) rfl rfl) ?_; refine rr rfl (rd_bin rfl rfl rfl rfl) ?_; refine rm rfl ?_; refine re_bool (d := 18) rfl (fun h18 => ?_) (fun h18 => ?_)
   ·
    iterate 3 refine rz rfl ?_
    iterate 2 refine rm rfl ?_
    refine re_end rfl ?_; refine xp_cond_t rfl rfl ?_; refine xp_skip rfl ?_
    exact ⟨rfl, bl (by first | (simp [h18]; done) | (simp only [h18, BLs])), by repeat (first | exact subL_refl _ | refine subL_skip rfl ?_), hl⟩
   ·
    refine rr rfl (rd_fieldAddr rfl rfl (fa Tryz.underlying63 az63 rfl)) ?_; refine rr rfl (rl hl 0 rfl rfl (by kernel_rfl) rfl rfl) ?_; refine rr rfl (rd_bin rfl rfl rfl rfl) ?_; iterate 2 refine rm rfl ?_
    refine re_end rfl ?_; refine xp_cond rfl rfl (fun h14 => ?_) (fun h14 => ?_)
    ·
     refine xp_skip rfl ?_
     exact ⟨rfl, bl (by first | (simp [h14, h18]; done) | (simp only [h14, h18, BLs])), by repeat (first | exact subL_refl _ | refine subL_skip rfl ?_), hl⟩
    ·
     refine xs (by kernel_rfl) ?_; refine rr rfl (rd_fieldAddr rfl rfl (fa Tryz.underlying63 az63 rfl)) ?_; refine rr rfl (rl hl 0 rfl rfl (by kernel_rfl) rfl rfl) ?_; refine rr rfl (rd_bin rfl rfl rfl rfl) ?_; refine rm rfl ?_; refine re_bool (d := 26) rfl (fun h26 => ?_) (fun h26 => ?_)
     ·
      iterate 3 refine rz rfl ?_
      iterate 2 refine rm rfl ?_
      refine re_end rfl ?_; refine xp_cond_t rfl rfl ?_; refine xp_skip rfl ?_
      exact ⟨rfl, bl (by first | (simp [h26, h14, h18]; done) | (simp only [h26, h14, h18, BLs])), by repeat (first | exact subL_refl _ | refine subL_skip rfl ?_), hl⟩
     ·
      refine rr rfl (rd_fieldAddr rfl rfl (fa Tryz.underlying63 az63 rfl)) ?_; refine rr rfl (rl hl 0 rfl rfl (by kernel_rfl) rfl rfl) ?_; refine rr rfl (rd_bin rfl rfl rfl rfl) ?_; iterate 2 refine rm rfl ?_
      refine re_end rfl ?_; refine xp_cond rfl rfl (fun h1014 => ?_) (fun h1014 => ?_)
      ·
       refine xp_skip rfl ?_
       exact ⟨rfl, bl (by first | (simp [h1014, h26, h14, h18]; done) | (simp only [h1014, h26, h14, h18, BLs])), by repeat (first | exact subL_refl _ | refine subL_skip rfl ?_), hl⟩
      ·
       refine xg (by kernel_rfl) ?_; refine rr rfl (rd_fieldAddr rfl rfl (fa Tryz.underlying63 az63 rfl)) ?_; refine rr rfl (rl hl 0 rfl rfl (by kernel_rfl) rfl rfl) ?_; refine rr rfl (rd_bin rfl rfl rfl rfl) ?_; refine rm rfl ?_; refine re_bool (d := 34) rfl (fun h34 => ?_) (fun h34 => ?_)
       ·
        iterate 3 refine rz rfl ?_
        iterate 2 refine rm rfl ?_
        refine re_end rfl ?_
        exact ⟨rfl, bl (by first | (simp [h34, h1014, h26, h14, h18]; done) | (simp only [h34, h1014, h26, h14, h18, BLs])), by repeat (first | exact subL_refl _ | refine subL_skip rfl ?_), hl⟩
       ·
        refine rr rfl (rd_fieldAddr rfl rfl (fa Tryz.underlying63 az63 rfl)) ?_; refine rr rfl (rl hl 0 rfl rfl (by kernel_rfl) rfl rfl) ?_; refine rr rfl (rd_bin rfl rfl rfl rfl) ?_; iterate 2 refine rm rfl ?_
        refine re_end rfl ?_
        exact ⟨rfl, bl (by first | (simp [h34, h1014, h26, h14, h18]; done) | (simp only [h34, h1014, h26, h14, h18, BLs])), by repeat (first | exact subL_refl _ | refine subL_skip rfl ?_), hl⟩
  intro S1 hl
  refine xp_cond rfl rfl (fun h14 => ?_) (fun h14 => ?_)
  ·
   refine xs (by kernel_rfl) ?_; refine rm rfl ?_; refine re_end rfl ?_; refine xp_ret rfl ?_
   refine blk_ret (thn_ret (done_ret (ress_tmp rfl rfl) ⟨hl.keep, congrArg (Value.int .i64) (by unfold noteE; rw [h10, h14]; rfl)⟩))
  ·
   refine xp_seq rfl (xe_toE hl 39 (.bool ((!((sgI C k).last == (k == (C.length : Int) - 1))) || !decide (sgI C k = bareS (sgI C k)))) ?_ rfl ?_)
   ·
    refine xp_draw (idx := [0, 1, 2, 3, 4, 5, 6, 7, 8, 9, 10, 11, 12, 13, 14]) rfl (by kernel_rfl) (by kernel_rfl) ?_; refine pr rfl (rd_fieldAddr rfl rfl (fa Tryz.underlying63 az63 rfl)) ?_; refine pk rfl (rl hl 0 rfl rfl (by kernel_rfl) rfl rfl) ?_; iterate 2 refine pm rfl ?_
    refine pk rfl (rd_len rfl rfl (len_slice Tryz.underlying22)) ?_; refine pr rfl (rd_bin rfl rfl rfl (i6 (by first | omega | (simp at *; omega)))) ?_; iterate 2 refine pr rfl (rd_bin rfl rfl rfl rfl) ?_
    refine pm rfl ?_; refine rp_bool (d := 48) rfl (fun h48 => ?_) (fun h48 => ?_)
    ·
     iterate 4 refine pz rfl ?_
     iterate 2 refine pm rfl ?_
     refine rp_end rfl ?_
     exact ⟨rfl, bl (by first | (simp [h48]; done) | (simp only [h48, BLs])), by repeat (first | exact subL_refl _ | refine subL_skip rfl ?_), hl⟩
    ·
     iterate 2 refine pk rfl (rd_load rfl rfl (loadN_of (z := 17) (by kernel_rfl) (by kernel_rfl) (hl.get 0 rfl) rfl)) ?_
     refine rp_callL hl rfl rfl rfl rfl rfl rfl rfl (spec117 _) ?_; rintro v S1 hk1 rfl hl; refine ⟨stays_of ⟨stays_load (X := True) rfl rfl (loadN_of (z := 17) (by kernel_rfl) (by kernel_rfl) (hl.get 0 rfl) rfl) (same_agg rfl (atoms_sign (sgI C k))) rfl trivial, stays_load (X := True) rfl rfl (loadN_of (z := 17) (by kernel_rfl) (by kernel_rfl) (hl.get 0 rfl) rfl) (same_agg rfl (atoms_sign (sgI C k))) rfl trivial, stays_len rfl rfl (len_slice Tryz.underlying22) (same_atom (atom_int _ _)) rfl, stays_load (X := True) rfl rfl (load1_of (by kernel_rfl) (hl.get 0 rfl) rfl) (same_atom (atom_bool _)) rfl trivial, trivial⟩, ?_⟩
     refine pr rfl (rd_bin rfl rfl rfl (neSign _ _ (sgI C k) (bareS (sgI C k)))) ?_; iterate 2 refine pm rfl ?_
     refine rp_end rfl ?_
     exact ⟨rfl, bl (by first | (simp [h48]; done) | (simp only [h48, BLs])), by repeat (first | exact subL_refl _ | refine subL_skip rfl ?_), hl⟩
   intro S1 hl
   refine xp_cond rfl rfl (fun h39 => ?_) (fun h39 => ?_)
   ·
    refine xs (by kernel_rfl) ?_; refine rm rfl ?_; refine re_end rfl ?_; refine xp_ret rfl ?_
    refine blk_ret (thn_ret (done_ret (ress_tmp rfl rfl) ⟨hl.keep, congrArg (Value.int .i64) (by unfold noteE; rw [h10, h14, h39]; rfl)⟩))
   ·
    refine xp_seq rfl (xe_toE hl 54 (.bool (decide (k > 0) && (((sgI C k).stem == 1) || ((sgI C k).stem == 2)))) ?_ rfl ?_)
    ·
     refine xg (by kernel_rfl) ?_; refine rm rfl ?_; refine rr rfl (rd_bin rfl rfl rfl rfl) ?_; refine rm rfl ?_; refine re_bool (d := 57) rfl (fun h57 => ?_) (fun h57 => ?_)
     ·
      refine rr rfl (rd_fieldAddr rfl rfl (fa Tryz.underlying63 az63 rfl)) ?_; refine rr rfl (rl hl 0 rfl rfl (by kernel_rfl) rfl rfl) ?_; refine rr rfl (rd_bin rfl rfl rfl rfl) ?_; refine rm rfl ?_; refine re_bool (d := 61) rfl (fun h61 => ?_) (fun h61 => ?_)
      ·
       iterate 3 refine rz rfl ?_
       iterate 3 refine rm rfl ?_
       refine re_end rfl ?_
       exact ⟨rfl, bl (by first | (simp [h61, h57]; done) | (simp only [h61, h57, BLs])), by repeat (first | exact subL_refl _ | refine subL_skip rfl ?_), hl⟩
      ·
       refine rr rfl (rd_fieldAddr rfl rfl (fa Tryz.underlying63 az63 rfl)) ?_; refine rr rfl (rl hl 0 rfl rfl (by kernel_rfl) rfl rfl) ?_; refine rr rfl (rd_bin rfl rfl rfl rfl) ?_; iterate 3 refine rm rfl ?_
       refine re_end rfl ?_
       exact ⟨rfl, bl (by first | (simp [h61, h57]; done) | (simp only [h61, h57, BLs])), by repeat (first | exact subL_refl _ | refine subL_skip rfl ?_), hl⟩
     ·
      iterate 8 refine rz rfl ?_
      iterate 2 refine rm rfl ?_
      refine re_end rfl ?_
      exact ⟨rfl, bl (by first | (simp [h57]; done) | (simp only [h57, BLs])), by repeat (first | exact subL_refl _ | refine subL_skip rfl ?_), hl⟩
    intro S1 hl
    refine xp_cond rfl rfl (fun h54 => ?_) (fun h54 => ?_)
    ·
     refine xs (by kernel_rfl) ?_; refine rm rfl ?_; refine re_end rfl ?_; refine xp_ret rfl ?_
     refine blk_ret (thn_ret (done_ret (ress_tmp rfl rfl) ⟨hl.keep, congrArg (Value.int .i64) (by unfold noteE; rw [h10, h14, h39, h54]; rfl)⟩))
    ·
     refine xp_seq rfl (xe_toE hl 67 (.bool ((sgI C k).oblique && ((k == (C.length : Int) - 1) || decide ((sgI C (k + 1)).place ≥ (sgI C k).place) || (sgI C (k + 1)).oblique))) ?_ rfl ?_)
     ·
      refine xp_draw (idx := [0, 1, 2, 3, 4, 5, 6, 7, 8, 9, 10, 11, 12, 13, 14, 15, 16, 17, 18, 19, 20, 21, 22, 23, 24, 25, 26, 27, 28]) rfl (by kernel_rfl) (by kernel_rfl) ?_; refine pr rfl (rd_fieldAddr rfl rfl (fa Tryz.underlying63 az63 rfl)) ?_; refine pk rfl (rl hl 0 rfl rfl (by kernel_rfl) rfl rfl) ?_; refine pm rfl ?_; refine rp_bool (d := 70) rfl (fun h70 => ?_) (fun h70 => ?_)
      ·
       iterate 2 refine pm rfl ?_
       refine pk rfl (rd_len rfl rfl (len_slice Tryz.underlying22)) ?_; refine pr rfl (rd_bin rfl rfl rfl (i6 (by first | omega | (simp at *; omega)))) ?_; refine pr rfl (rd_bin rfl rfl rfl rfl) ?_; refine pm rfl ?_; refine rp_bool (d := 76) rfl (fun h76 => ?_) (fun h76 => ?_)
       ·
        iterate 9 refine pz rfl ?_
        iterate 2 refine pm rfl ?_
        iterate 6 refine pz rfl ?_
        iterate 3 refine pm rfl ?_
        refine rp_end rfl ?_
        exact ⟨rfl, bl (by first | (simp [h76, h70]; done) | (simp only [h76, h70, BLs])), by repeat (first | exact subL_refl _ | refine subL_skip rfl ?_), hl⟩
       ·
        iterate 2 refine pm rfl ?_
        refine pr rfl (rd_bin rfl rfl rfl (i6 (by first | omega | (simp at *; omega)))) ?_; refine pr rfl (rd_indexAddr rfl rfl rfl (indexAddr_slice (z := 17) Tryz.underlying22 (by kernel_rfl) ⟨by first | omega | (simp at *; omega), by first | omega | (simp at *; omega)⟩)) ?_; refine pr rfl (rd_fieldAddr rfl rfl (fa Tryz.underlying63 az63 rfl)) ?_; refine pk rfl (rd_load rfl rfl (load1_row (by kernel_rfl) (row_move (hl.since 0 rfl) hrow) (tk_nth (hall _ (by first | omega | (simp at *; omega)) (by first | omega | (simp at *; omega))) rfl))) ?_
        refine pr rfl (rd_fieldAddr rfl rfl (fa Tryz.underlying63 az63 rfl)) ?_; refine pk rfl (rl hl 0 rfl rfl (by kernel_rfl) rfl rfl) ?_; refine pr rfl (rd_bin rfl rfl rfl rfl) ?_; iterate 2 refine pm rfl ?_
        refine rp_bool (d := 87) rfl (fun h87 => ?_) (fun h87 => ?_)
        ·
         iterate 6 refine pz rfl ?_
         iterate 3 refine pm rfl ?_
         refine rp_end rfl ?_
         exact ⟨rfl, bl (by first | (simp [h87, h76, h70]; done) | (simp only [h87, h76, h70, BLs])), by repeat (first | exact subL_refl _ | refine subL_skip rfl ?_), hl⟩
        ·
         iterate 2 refine pm rfl ?_
         refine pr rfl (rd_bin rfl rfl rfl (i6 (by first | omega | (simp at *; omega)))) ?_; refine pr rfl (rd_indexAddr rfl rfl rfl (indexAddr_slice (z := 17) Tryz.underlying22 (by kernel_rfl) ⟨by first | omega | (simp at *; omega), by first | omega | (simp at *; omega)⟩)) ?_; refine pr rfl (rd_fieldAddr rfl rfl (fa Tryz.underlying63 az63 rfl)) ?_; refine pk rfl (rd_load rfl rfl (load1_row (by kernel_rfl) (row_move (hl.since 0 rfl) hrow) (tk_nth (hall _ (by first | omega | (simp at *; omega)) (by first | omega | (simp at *; omega))) rfl))) ?_; iterate 3 refine pm rfl ?_
         refine rp_end rfl ?_
         exact ⟨rfl, bl (by first | (simp [h87, h76, h70]; done) | (simp only [h87, h76, h70, BLs])), by repeat (first | exact subL_refl _ | refine subL_skip rfl ?_), hl⟩
      ·
       iterate 24 refine pz rfl ?_
       iterate 2 refine pm rfl ?_
       refine rp_end rfl ?_
       exact ⟨rfl, bl (by first | (simp [h70]; done) | (simp only [h70, BLs])), by repeat (first | exact subL_refl _ | refine subL_skip rfl ?_), hl⟩
     intro S1 hl
     refine xp_cond rfl rfl (fun h67 => ?_) (fun h67 => ?_)
     ·
      refine xs (by kernel_rfl) ?_; refine rm rfl ?_; refine re_end rfl ?_; refine xp_ret rfl ?_
      refine blk_ret (thn_ret (done_ret (ress_tmp rfl rfl) ⟨hl.keep, congrArg (Value.int .i64) (by unfold noteE; rw [h10, h14, h39, h54, h67]; rfl)⟩))
     ·
      refine xp_seq rfl (xe_toE hl 96 (.bool (decide (k > 0) && ((sgI C k).place == (sgI C (k - 1)).place))) ?_ rfl ?_)
      ·
       refine xp_draw (idx := [0, 1, 2, 3, 4, 5, 6, 7, 8, 9, 10, 11, 12, 13]) rfl (by kernel_rfl) (by kernel_rfl) ?_; refine pm rfl ?_; refine pr rfl (rd_bin rfl rfl rfl rfl) ?_; refine pm rfl ?_; refine rp_bool (d := 99) rfl (fun h99 => ?_) (fun h99 => ?_)
       ·
        refine pr rfl (rd_fieldAddr rfl rfl (fa Tryz.underlying63 az63 rfl)) ?_; refine pk rfl (rl hl 0 rfl rfl (by kernel_rfl) rfl rfl) ?_; iterate 2 refine pm rfl ?_
        refine pr rfl (rd_bin rfl rfl rfl (i6 (by first | omega | (simp at *; omega)))) ?_; refine pr rfl (rd_indexAddr rfl rfl rfl (indexAddr_slice (z := 17) Tryz.underlying22 (by kernel_rfl) ⟨by first | omega | (simp at *; omega), by first | omega | (simp at *; omega)⟩)) ?_; refine pr rfl (rd_fieldAddr rfl rfl (fa Tryz.underlying63 az63 rfl)) ?_; refine pk rfl (rd_load rfl rfl (load1_row (by kernel_rfl) (row_move (hl.since 0 rfl) hrow) (tk_nth (hall _ (by first | omega | (simp at *; omega)) (by first | omega | (simp at *; omega))) rfl))) ?_; refine pr rfl (rd_bin rfl rfl rfl rfl) ?_
        iterate 2 refine pm rfl ?_
        refine rp_end rfl ?_
        exact ⟨rfl, bl (by first | (simp [h99]; done) | (simp only [h99, BLs])), by repeat (first | exact subL_refl _ | refine subL_skip rfl ?_), hl⟩
       ·
        iterate 9 refine pz rfl ?_
        iterate 2 refine pm rfl ?_
        refine rp_end rfl ?_
        exact ⟨rfl, bl (by first | (simp [h99]; done) | (simp only [h99, BLs])), by repeat (first | exact subL_refl _ | refine subL_skip rfl ?_), hl⟩
      intro S1 hl
      refine xp_cond rfl rfl (fun h96 => ?_) (fun h96 => ?_)
      ·
       refine xs (by kernel_rfl) ?_; refine rm rfl ?_; refine re_end rfl ?_; refine xp_ret rfl ?_
       refine blk_ret (thn_ret (done_ret (ress_tmp rfl rfl) ⟨hl.keep, congrArg (Value.int .i64) (by unfold noteE; rw [h10, h14, h39, h54, h67, h96]; rfl)⟩))
      ·
       refine xp_seq rfl (xe_toE hl 110 (.bool ((k == 1) && ((sgI C k).stem == 3) && ((sgI C 0).stem == 1))) ?_ rfl ?_)
       ·
        refine xg (by kernel_rfl) ?_; refine rm rfl ?_; refine rr rfl (rd_bin rfl rfl rfl rfl) ?_; refine rm rfl ?_; refine re_bool (d := 113) rfl (fun h113 => ?_) (fun h113 => ?_)
        ·
         refine rr rfl (rd_fieldAddr rfl rfl (fa Tryz.underlying63 az63 rfl)) ?_; refine rr rfl (rl hl 0 rfl rfl (by kernel_rfl) rfl rfl) ?_; refine rr rfl (rd_bin rfl rfl rfl rfl) ?_; iterate 2 refine rm rfl ?_
         refine re_bool (d := 118) rfl (fun h118 => ?_) (fun h118 => ?_)
         ·
          refine rm rfl ?_; refine rr rfl (rd_indexAddr rfl rfl rfl (indexAddr_slice (z := 17) Tryz.underlying22 (by kernel_rfl) ⟨by first | omega | (simp at *; omega), by first | omega | (simp at *; omega)⟩)) ?_; refine rr rfl (rd_fieldAddr rfl rfl (fa Tryz.underlying63 az63 rfl)) ?_; refine rr rfl (rd_load rfl rfl (load1_row (by kernel_rfl) (row_move (hl.since 0 rfl) hrow) (tk_nth (hall _ (by first | omega | (simp at *; omega)) (by first | omega | (simp at *; omega))) rfl))) ?_; refine rr rfl (rd_bin rfl rfl rfl rfl) ?_; iterate 2 refine rm rfl ?_
          refine re_end rfl ?_
          exact ⟨rfl, bl (by first | (simp [h118, h113]; done) | (simp only [h118, h113, BLs])), by repeat (first | exact subL_refl _ | refine subL_skip rfl ?_), hl⟩
         ·
          iterate 5 refine rz rfl ?_
          iterate 2 refine rm rfl ?_
          refine re_end rfl ?_
          exact ⟨rfl, bl (by first | (simp [h118, h113]; done) | (simp only [h118, h113, BLs])), by repeat (first | exact subL_refl _ | refine subL_skip rfl ?_), hl⟩
        ·
         iterate 3 refine rz rfl ?_
         iterate 2 refine rm rfl ?_
         iterate 5 refine rz rfl ?_
         iterate 2 refine rm rfl ?_
         refine re_end rfl ?_
         exact ⟨rfl, bl (by first | (simp [h113]; done) | (simp only [h113, BLs])), by repeat (first | exact subL_refl _ | refine subL_skip rfl ?_), hl⟩
       intro S1 hl
       refine xp_cond rfl rfl (fun h110 => ?_) (fun h110 => ?_)
       ·
        refine xs (by kernel_rfl) ?_; refine rm rfl ?_; refine re_end rfl ?_; refine xp_ret rfl ?_
        refine blk_ret (thn_ret (done_ret (ress_tmp rfl rfl) ⟨hl.keep, congrArg (Value.int .i64) (by unfold noteE; rw [h10, h14, h39, h54, h67, h96, h110]; rfl)⟩))
       ·
        refine xp_skip rfl ?_; refine xs (by kernel_rfl) ?_; refine rm rfl ?_; refine re_end rfl ?_; refine xp_ret rfl ?_
        refine done_ret (ress_tmp rfl rfl) ⟨hl.keep, congrArg (Value.int .i64) (by unfold noteE; rw [h10, h14, h39, h54, h67, h96, h110]; rfl)⟩
end Go.Proofs.YtkmhecihkckcmaaGreatDoor
namespace Go.Proofs.YtkmhecihkckcmaaGreatDoor
open Go.Cm Go
set_option maxRecDepth 100000
variable {S : St}
noncomputable def c71 : Code := Tryz.f71.body.getD .skip
theorem spec71 (a : Option Addr) (cap : Nat) (C : List Sg) (hn : C.length ≤ 1000) (hv : Signs S (.slice a C.length cap) C) : CC Tryz.prog KK 71 [.slice a C.length cap] S (fun v S' => Keep S S' ∧ v = tupV [.int .i64 (ligCheck C).1, .int .i64 (ligCheck C).2]) := by
 refine cc_enter (c := c71) (n := 27) Tryz.func71 rfl rfl rfl (by kernel_rfl) rfl rfl ?_
 have hl := Hold.start S
 refine xs (by kernel_rfl) ?_; iterate 2 refine rm rfl ?_
 refine re_end rfl ?_; refine xp_seq rfl ?_; refine xp_seq rfl (xe_toE hl 13 (.bool (ligB C)) ?_ rfl ?_)
 ·
  refine xg (by kernel_rfl) ?_; refine rm rfl ?_; refine rr rfl (rd_len rfl rfl (len_slice Tryz.underlying22)) ?_; refine rr rfl (rd_bin rfl rfl rfl rfl) ?_; refine rm rfl ?_; refine re_bool (d := 9) rfl (fun h9 => ?_) (fun h9 => ?_)
  ·
   iterate 3 refine rz rfl ?_
   refine rm rfl ?_; refine re_end rfl ?_
   exact ⟨rfl, bl (by unfold ligB; simp only [h9, BLs]), by repeat (first | exact subL_refl _ | refine subL_skip rfl ?_), hl⟩
  ·
   refine rm rfl ?_; refine rr rfl (rd_len rfl rfl (len_slice Tryz.underlying22)) ?_; refine rr rfl (rd_bin rfl rfl rfl rfl) ?_; refine rm rfl ?_; refine re_end rfl ?_
   exact ⟨rfl, bl (by unfold ligB; simp only [h9, BLs]), by repeat (first | exact subL_refl _ | refine subL_skip rfl ?_), hl⟩
 intro S1 hl
 refine xp_cond rfl rfl (fun h13 => ?_) (fun h13 => ?_)
 ·
  refine xs (by kernel_rfl) ?_; iterate 2 refine rm rfl ?_
  refine re_end rfl ?_; refine xp_ret rfl ?_
  refine thn_ret (done_ret (ress_tmp rfl (ress_tmp rfl rfl)) ⟨hl.keep, res2 (by unfold ligCheck; rw [h13]; rfl)⟩)
 ·
  refine xp_skip rfl ?_; refine xp_seq rfl ?_; refine xs (by kernel_rfl) ?_; refine rm rfl ?_; refine re_end rfl ?_; refine xp_block rfl ?_
  -- LOOP
  have hck : ligCheck C = ligE C.length C 0 := by unfold ligCheck; rw [h13]; rfl
  refine xe_sub (L' := [(4, .int .i64 0), (0, .slice a C.length cap)]) ⟨rfl, rfl, trivial⟩ ?_
  refine xp_loop rfl (fun m Le S' => ∃ i : Nat, i ≤ C.length ∧ m = C.length - i ∧ SubE [(4, .int .i64 (i : Int)), (0, .slice a C.length cap)] Le ∧ ligE (C.length - i) C i = ligE C.length C 0 ∧ HoldG S [S] S' [] []) ?_ (m := C.length) ⟨0, by omega, by omega, ⟨rfl, rfl, trivial⟩, rfl, hl⟩
  clear hl; rintro m Le S' ⟨i, hi, rfl, hsub, hpr, hl⟩; refine xe_sub hsub ?_
  refine xp_seq rfl ?_; refine xs (by kernel_rfl) ?_; iterate 2 refine rm rfl ?_
  refine rr rfl (rd_len rfl rfl (len_slice Tryz.underlying22)) ?_; refine rr rfl (rd_bin rfl rfl rfl rfl) ?_; refine re_end rfl ?_; refine xp_cond rfl rfl (fun h17 => ?_) (fun h17 => ?_)
  ·
   have hlt : i < C.length := by have := of_decide_eq_true h17; omega
   refine xp_skip rfl ?_; refine xp_seq rfl ?_; refine xp_block rfl ?_; refine xs (by kernel_rfl) ?_; iterate 2 refine rm rfl ?_
   refine re_callL hl rfl rfl rfl rfl rfl rfl rfl (spec89 a cap C i hn (by omega) (by omega) (hv.move (hl.since 0 rfl))) ?_; rintro v S1 hk1 rfl hl
   refine rm rfl ?_; refine re_end rfl ?_; refine xs (by kernel_rfl) ?_; refine rm rfl ?_; refine rr rfl (rd_bin rfl rfl rfl rfl) ?_; refine re_end rfl ?_; refine xp_cond rfl rfl (fun h24 => ?_) (fun h24 => ?_)
   ·
    refine xs (by kernel_rfl) ?_; iterate 4 refine rm rfl ?_
    refine re_end rfl ?_; refine xp_ret rfl ?_
    refine blk_ret (thn_ret (round_ret (blk_ret (thn_ret (done_ret (ress_tmp rfl (ress_tmp rfl rfl)) ⟨hl.keep, res2 (by rw [hck, ← hpr, show C.length - i = (C.length - (i + 1)) + 1 by omega, ligE_no (by rw [← note_eq (by omega)]; simpa using h24), note_eq (by omega)])⟩)))))
   ·
    refine xp_skip rfl ?_; refine xg (by kernel_rfl) ?_; refine rm rfl ?_; refine rr rfl (rd_bin rfl rfl rfl (i6 (by omega))) ?_; refine rm rfl ?_; refine re_end rfl ?_
    refine ⟨C.length - (i + 1), by omega, i + 1, by omega, rfl, ⟨rfl, rfl, trivial⟩, ?_, hl⟩
    rw [← hpr, show C.length - i = (C.length - (i + 1)) + 1 by omega, ligE_go (by rw [← note_eq (by omega)]; simpa using h24)]
  ·
   refine xp_exit rfl ?_; refine xs (by kernel_rfl) ?_; iterate 2 refine rm rfl ?_
   refine re_end rfl ?_; refine xp_ret rfl ?_
   refine done_ret (ress_tmp rfl (ress_tmp rfl rfl)) ⟨hl.keep, res2 (by rw [hck, ← hpr, show C.length - i = 0 by have := of_decide_eq_false h17; omega]; rfl)⟩
def valueE (C : List Sg) (k : Int) : Int := bif (sgI C k).stem == 3 then 2 else bif decide (k < 2) && ((sgI C 0).stem == 1) then 4 else bif k == 0 then (bif ((decide ((sgI C 1).place < (sgI C 0).place) && !((sgI C 0).stem == 2)) || (!decide ((sgI C 1).place < (sgI C 0).place) && ((sgI C 0).stem == 2))) then 2 else 3) else bif ((k == (C.length : Int) - 1) && !(sgI C (k - 1)).oblique && decide ((sgI C k).place < (sgI C (k - 1)).place)) then 2 else 3
theorem value_eq {C : List Sg} {k : Int} (k0 : 0 ≤ k) : valueE C k = ligValue C k := by
 have e1 : (k == (C.length : Int) - 1) = (k + 1 == (C.length : Int)) := by rw [Bool.eq_iff_iff]; simp; omega
 have e2 : decide (k > 0) = !(k == 0) := by rw [Bool.eq_iff_iff]; simp; omega
 unfold valueE ligValue rule1 rule2 rule3 rule4
 rw [e1, e2]
 generalize ((sgI C k).stem == 3) = X1
 generalize (decide (k < 2) && ((sgI C 0).stem == 1)) = X2
 generalize decide ((sgI C 1).place < (sgI C 0).place) = X3
 generalize ((sgI C 0).stem == 2) = X4
 generalize ((k + 1 == (C.length : Int)) && !(sgI C (k - 1)).oblique && decide ((sgI C k).place < (sgI C (k - 1)).place)) = X5
 generalize (k == 0) = X6
 cases X1 <;> cases X2 <;> cases X3 <;> cases X4 <;> cases X5 <;> cases X6 <;> rfl
noncomputable def c72 : Code := Tryz.f72.body.getD .skip
theorem spec72 (a : Option Addr) (cap : Nat) (C : List Sg) (k : Int) (hn : C.length ≤ 1000) (h2 : 2 ≤ C.length) (k0 : 0 ≤ k) (k1 : k < C.length) (hv : Signs S (.slice a C.length cap) C) : CC Tryz.prog KK 72 [.slice a C.length cap, .int .i64 k] S (fun v S' => Keep S S' ∧ v = .int .i64 (valueE C k)) := by
 refine cc_enter (c := c72) (n := 78) Tryz.func72 rfl rfl rfl (by kernel_rfl) rfl rfl ?_
 have hl := Hold.start S
 obtain ⟨b, o, cs, rfl, hrow, hall⟩ := hv.row (by omega)
 refine xs (by kernel_rfl) ?_; refine rm rfl ?_; refine re_end rfl ?_; refine xp_seq rfl ?_; refine xs (by kernel_rfl) ?_; iterate 2 refine rm rfl ?_
 refine rr rfl (rd_indexAddr rfl rfl rfl (indexAddr_slice (z := 17) Tryz.underlying22 (by kernel_rfl) ⟨by first | omega | (simp at *; omega), by first | omega | (simp at *; omega)⟩)) ?_; refine rr rfl (rd_fieldAddr rfl rfl (fa Tryz.underlying63 az63 rfl)) ?_; refine rr rfl (rd_load rfl rfl (load1_row (by kernel_rfl) (row_move (hl.since 0 rfl) hrow) (tk_nth (hall _ (by first | omega | (simp at *; omega)) (by first | omega | (simp at *; omega))) rfl))) ?_; refine rr rfl (rd_bin rfl rfl rfl rfl) ?_; refine re_end rfl ?_; refine xp_cond rfl rfl (fun h12 => ?_) (fun h12 => ?_)
 ·
  refine xs (by kernel_rfl) ?_; refine rm rfl ?_; refine re_end rfl ?_; refine xp_ret rfl ?_
  refine thn_ret (done_ret (ress_tmp rfl rfl) ⟨hl.keep, congrArg (Value.int .i64) (by unfold valueE; rw [h12]; rfl)⟩)
 ·
  refine xp_skip rfl ?_; refine xp_seq rfl ?_; refine xp_seq rfl (xe_toE hl 21 (.bool (decide (k < 2) && ((sgI C 0).stem == 1))) ?_ rfl ?_)
  ·
   refine xg (by kernel_rfl) ?_; refine rm rfl ?_; refine rr rfl (rd_bin rfl rfl rfl rfl) ?_; refine rm rfl ?_; refine re_bool (d := 15) rfl (fun h15 => ?_) (fun h15 => ?_)
   ·
    refine rm rfl ?_; refine rr rfl (rd_indexAddr rfl rfl rfl (indexAddr_slice (z := 17) Tryz.underlying22 (by kernel_rfl) ⟨by first | omega | (simp at *; omega), by first | omega | (simp at *; omega)⟩)) ?_; refine rr rfl (rd_fieldAddr rfl rfl (fa Tryz.underlying63 az63 rfl)) ?_; refine rr rfl (rd_load rfl rfl (load1_row (by kernel_rfl) (row_move (hl.since 0 rfl) hrow) (tk_nth (hall _ (by first | omega | (simp at *; omega)) (by first | omega | (simp at *; omega))) rfl))) ?_; refine rr rfl (rd_bin rfl rfl rfl rfl) ?_; refine rm rfl ?_; refine re_end rfl ?_
    exact ⟨rfl, bl (by first | (simp [h15]; done) | (simp only [h15, BLs])), by repeat (first | exact subL_refl _ | refine subL_skip rfl ?_), hl⟩
   ·
    iterate 5 refine rz rfl ?_
    refine rm rfl ?_; refine re_end rfl ?_
    exact ⟨rfl, bl (by first | (simp [h15]; done) | (simp only [h15, BLs])), by repeat (first | exact subL_refl _ | refine subL_skip rfl ?_), hl⟩
  intro S1 hl
  refine xp_cond rfl rfl (fun h21 => ?_) (fun h21 => ?_)
  ·
   refine xs (by kernel_rfl) ?_; refine rm rfl ?_; refine re_end rfl ?_; refine xp_ret rfl ?_
   refine thn_ret (done_ret (ress_tmp rfl rfl) ⟨hl.keep, congrArg (Value.int .i64) (by unfold valueE; rw [h12, h21]; rfl)⟩)
  ·
   refine xp_skip rfl ?_; refine xp_seq rfl ?_; refine xs (by kernel_rfl) ?_; refine rm rfl ?_; refine rr rfl (rd_bin rfl rfl rfl rfl) ?_; refine re_end rfl ?_; refine xp_cond rfl rfl (fun h23 => ?_) (fun h23 => ?_)
   ·
    refine xp_seq rfl ?_; refine xp_draw (idx := [0, 1, 2, 3, 4, 5, 6, 7, 8, 9]) rfl (by kernel_rfl) (by kernel_rfl) ?_; refine pm rfl ?_; refine pr rfl (rd_indexAddr rfl rfl rfl (indexAddr_slice (z := 17) Tryz.underlying22 (by kernel_rfl) ⟨by first | omega | (simp at *; omega), by first | omega | (simp at *; omega)⟩)) ?_; refine pr rfl (rd_fieldAddr rfl rfl (fa Tryz.underlying63 az63 rfl)) ?_; refine pk rfl (rd_load rfl rfl (load1_row (by kernel_rfl) (row_move (hl.since 0 rfl) hrow) (tk_nth (hall _ (by first | omega | (simp at *; omega)) (by first | omega | (simp at *; omega))) rfl))) ?_
    refine pm rfl ?_; refine pr rfl (rd_indexAddr rfl rfl rfl (indexAddr_slice (z := 17) Tryz.underlying22 (by kernel_rfl) ⟨by first | omega | (simp at *; omega), by first | omega | (simp at *; omega)⟩)) ?_; refine pr rfl (rd_fieldAddr rfl rfl (fa Tryz.underlying63 az63 rfl)) ?_; refine pk rfl (rd_load rfl rfl (load1_row (by kernel_rfl) (row_move (hl.since 0 rfl) hrow) (tk_nth (hall _ (by first | omega | (simp at *; omega)) (by first | omega | (simp at *; omega))) rfl))) ?_; refine pr rfl (rd_bin rfl rfl rfl rfl) ?_; refine pm rfl ?_; refine rp_end rfl ?_; refine xs (by kernel_rfl) ?_
    refine rm rfl ?_; refine rr rfl (rd_indexAddr rfl rfl rfl (indexAddr_slice (z := 17) Tryz.underlying22 (by kernel_rfl) ⟨by first | omega | (simp at *; omega), by first | omega | (simp at *; omega)⟩)) ?_; refine rr rfl (rd_fieldAddr rfl rfl (fa Tryz.underlying63 az63 rfl)) ?_; refine rr rfl (rd_load rfl rfl (load1_row (by kernel_rfl) (row_move (hl.since 0 rfl) hrow) (tk_nth (hall _ (by first | omega | (simp at *; omega)) (by first | omega | (simp at *; omega))) rfl))) ?_; refine rr rfl (rd_bin rfl rfl rfl rfl) ?_; refine rm rfl ?_; refine re_end rfl ?_; refine xp_seq rfl ?_
    refine xp_seq rfl (xe_toE hl 49 (.bool ((decide ((sgI C 1).place < (sgI C 0).place) && !((sgI C 0).stem == 2)) || (!decide ((sgI C 1).place < (sgI C 0).place) && ((sgI C 0).stem == 2)))) ?_ rfl ?_)
    ·
     refine xg (by kernel_rfl) ?_; iterate 2 refine rm rfl ?_
     refine re_bool (d := 39) rfl (fun h39 => ?_) (fun h39 => ?_)
     ·
      refine rm rfl ?_; refine rr rfl (rd_un rfl rfl rfl) ?_; iterate 2 refine rm rfl ?_
      refine re_bool (d := 43) rfl (fun h43 => ?_) (fun h43 => ?_)
      ·
       iterate 5 refine rz rfl ?_
       refine rm rfl ?_; refine re_end rfl ?_
       exact ⟨rfl, bl (by first | (simp [h43, h39]; done) | (simp only [h43, h39, BLs])), by repeat (first | exact subL_refl _ | refine subL_skip rfl ?_), hl⟩
      ·
       refine rm rfl ?_; refine rr rfl (rd_un rfl rfl rfl) ?_; refine rm rfl ?_; refine re_bool (d := 46) rfl (fun h46 => ?_) (fun h46 => ?_)
       ·
        iterate 3 refine rm rfl ?_
        refine re_end rfl ?_
        exact ⟨rfl, bl (by revert h46 h43 h39; cases decide ((sgI C 1).place < (sgI C 0).place) <;> cases ((sgI C 0).stem == 2) <;> decide), by repeat (first | exact subL_refl _ | refine subL_skip rfl ?_), hl⟩
       ·
        refine rz rfl ?_; iterate 2 refine rm rfl ?_
        refine re_end rfl ?_
        exact ⟨rfl, bl (by revert h46 h43 h39; cases decide ((sgI C 1).place < (sgI C 0).place) <;> cases ((sgI C 0).stem == 2) <;> decide), by repeat (first | exact subL_refl _ | refine subL_skip rfl ?_), hl⟩
     ·
      iterate 2 refine rz rfl ?_
      iterate 3 refine rm rfl ?_
      refine rr rfl (rd_un rfl rfl rfl) ?_; refine rm rfl ?_; refine re_bool (d := 46) rfl (fun h46 => ?_) (fun h46 => ?_)
      ·
       iterate 3 refine rm rfl ?_
       refine re_end rfl ?_
       exact ⟨rfl, bl (by revert h46 h39; cases decide ((sgI C 1).place < (sgI C 0).place) <;> cases ((sgI C 0).stem == 2) <;> decide), by repeat (first | exact subL_refl _ | refine subL_skip rfl ?_), hl⟩
      ·
       refine rz rfl ?_; iterate 2 refine rm rfl ?_
       refine re_end rfl ?_
       exact ⟨rfl, bl (by revert h46 h39; cases decide ((sgI C 1).place < (sgI C 0).place) <;> cases ((sgI C 0).stem == 2) <;> decide), by repeat (first | exact subL_refl _ | refine subL_skip rfl ?_), hl⟩
    intro S1 hl
    refine xp_cond rfl rfl (fun h49 => ?_) (fun h49 => ?_)
    ·
     refine xs (by kernel_rfl) ?_; refine rm rfl ?_; refine re_end rfl ?_; refine xp_ret rfl ?_
     refine thn_ret (thn_ret (done_ret (ress_tmp rfl rfl) ⟨hl.keep, congrArg (Value.int .i64) (by unfold valueE; rw [h12, h21, h23, h49]; rfl)⟩))
    ·
     refine xp_skip rfl ?_; refine xs (by kernel_rfl) ?_; refine rm rfl ?_; refine re_end rfl ?_; refine xp_ret rfl ?_
     refine thn_ret (done_ret (ress_tmp rfl rfl) ⟨hl.keep, congrArg (Value.int .i64) (by unfold valueE; rw [h12, h21, h23, h49]; rfl)⟩)
   ·
    refine xp_skip rfl ?_; refine xp_seq rfl ?_; refine xp_seq rfl (xe_toE hl 77 (.bool ((k == (C.length : Int) - 1) && !(sgI C (k - 1)).oblique && decide ((sgI C k).place < (sgI C (k - 1)).place))) ?_ rfl ?_)
    ·
     refine xp_draw (idx := [0, 1, 2, 3, 4, 5, 6, 7, 8, 9, 10, 11, 12, 13, 14, 15, 16, 17, 18, 19, 20, 21, 22, 23, 24, 25, 26, 27]) rfl (by kernel_rfl) (by kernel_rfl) ?_; iterate 2 refine pm rfl ?_
     refine pk rfl (rd_len rfl rfl (len_slice Tryz.underlying22)) ?_; refine pr rfl (rd_bin rfl rfl rfl (i6 (by first | omega | (simp at *; omega)))) ?_; refine pr rfl (rd_bin rfl rfl rfl rfl) ?_; refine pm rfl ?_; refine rp_bool (d := 55) rfl (fun h55 => ?_) (fun h55 => ?_)
     ·
      iterate 2 refine pm rfl ?_
      refine pr rfl (rd_bin rfl rfl rfl (i6 (by first | omega | (simp at *; omega)))) ?_; refine pr rfl (rd_indexAddr rfl rfl rfl (indexAddr_slice (z := 17) Tryz.underlying22 (by kernel_rfl) ⟨by first | omega | (simp at *; omega), by first | omega | (simp at *; omega)⟩)) ?_; refine pr rfl (rd_fieldAddr rfl rfl (fa Tryz.underlying63 az63 rfl)) ?_; refine pk rfl (rd_load rfl rfl (load1_row (by kernel_rfl) (row_move (hl.since 0 rfl) hrow) (tk_nth (hall _ (by first | omega | (simp at *; omega)) (by first | omega | (simp at *; omega))) rfl))) ?_; refine pr rfl (rd_un rfl rfl rfl) ?_
      iterate 2 refine pm rfl ?_
      refine rp_bool (d := 64) rfl (fun h64 => ?_) (fun h64 => ?_)
      ·
       iterate 2 refine pm rfl ?_
       refine pr rfl (rd_indexAddr rfl rfl rfl (indexAddr_slice (z := 17) Tryz.underlying22 (by kernel_rfl) ⟨by first | omega | (simp at *; omega), by first | omega | (simp at *; omega)⟩)) ?_; refine pr rfl (rd_fieldAddr rfl rfl (fa Tryz.underlying63 az63 rfl)) ?_; refine pk rfl (rd_load rfl rfl (load1_row (by kernel_rfl) (row_move (hl.since 0 rfl) hrow) (tk_nth (hall _ (by first | omega | (simp at *; omega)) (by first | omega | (simp at *; omega))) rfl))) ?_; iterate 2 refine pm rfl ?_
       refine pr rfl (rd_bin rfl rfl rfl (i6 (by first | omega | (simp at *; omega)))) ?_; refine pr rfl (rd_indexAddr rfl rfl rfl (indexAddr_slice (z := 17) Tryz.underlying22 (by kernel_rfl) ⟨by first | omega | (simp at *; omega), by first | omega | (simp at *; omega)⟩)) ?_; refine pr rfl (rd_fieldAddr rfl rfl (fa Tryz.underlying63 az63 rfl)) ?_; refine pk rfl (rd_load rfl rfl (load1_row (by kernel_rfl) (row_move (hl.since 0 rfl) hrow) (tk_nth (hall _ (by first | omega | (simp at *; omega)) (by first | omega | (simp at *; omega))) rfl))) ?_; refine pr rfl (rd_bin rfl rfl rfl rfl) ?_; refine pm rfl ?_
       refine rp_end rfl ?_
       exact ⟨rfl, bl (by first | (simp [h64, h55]; done) | (simp only [h64, h55, BLs])), by repeat (first | exact subL_refl _ | refine subL_skip rfl ?_), hl⟩
      ·
       iterate 12 refine pz rfl ?_
       refine pm rfl ?_; refine rp_end rfl ?_
       exact ⟨rfl, bl (by first | (simp [h64, h55]; done) | (simp only [h64, h55, BLs])), by repeat (first | exact subL_refl _ | refine subL_skip rfl ?_), hl⟩
     ·
      iterate 7 refine pz rfl ?_
      iterate 2 refine pm rfl ?_
      iterate 12 refine pz rfl ?_
      refine pm rfl ?_; refine rp_end rfl ?_
      exact ⟨rfl, bl (by first | (simp [h55]; done) | (simp only [h55, BLs])), by repeat (first | exact subL_refl _ | refine subL_skip rfl ?_), hl⟩
    intro S1 hl
    refine xp_cond rfl rfl (fun h77 => ?_) (fun h77 => ?_)
    ·
     refine xs (by kernel_rfl) ?_; refine rm rfl ?_; refine re_end rfl ?_; refine xp_ret rfl ?_
     refine thn_ret (done_ret (ress_tmp rfl rfl) ⟨hl.keep, congrArg (Value.int .i64) (by unfold valueE; rw [h12, h21, h23, h77]; rfl)⟩)
    ·
     refine xp_skip rfl ?_; refine xs (by kernel_rfl) ?_; refine rm rfl ?_; refine re_end rfl ?_; refine xp_ret rfl ?_
     refine done_ret (ress_tmp rfl rfl) ⟨hl.keep, congrArg (Value.int .i64) (by unfold valueE; rw [h12, h21, h23, h77]; rfl)⟩
end Go.Proofs.YtkmhecihkckcmaaGreatDoor
namespace Go.Proofs.YtkmhecihkckcmaaGreatDoor
open Go.Cm Go
set_option maxRecDepth 100000
variable {S : St}
def valsN (C : List Sg) (i : Nat) : List Int := (List.range' 0 i).map fun j => ligValue C (j : Nat)
theorem valsN_succ (C : List Sg) (i : Nat) : (valsN C (i + 1)).map iv = (valsN C i).map iv ++ [iv (ligValue C (i : Nat))] := by
 unfold valsN
 rw [List.range'_concat]
 simp
theorem valsN_grow {S0 S : St} {av : Option Addr} {C : List Sg} {i : Nat} (hi : i = C.length) (h : Grow S0 S ⟨.slice av i i, 3, 1, (valsN C i).map iv, i⟩) : GrowI S0 S (.slice av i i) (ligValues C) := by
 subst hi
 have e : (ligValues C).length = C.length := ligValues_len C
 unfold GrowI
 rw [e]
 exact h
noncomputable def c59 : Code := Tryz.f59.body.getD .skip
theorem spec59 (a : Option Addr) (cap : Nat) (C : List Sg) (hn : C.length ≤ 1000) (hF : Fresh S) (hv : Signs S (.slice a C.length cap) C) : CC Tryz.prog KK 59 [.slice a C.length cap] S (fun v S' => Keep S S' ∧ (∃ w, v = tupV [w, .int .i64 (ligCheck C).1] ∧ GrowI S S' w (bif (ligCheck C).1 != 0 then [] else ligValues C))) := by
 refine cc_enter (c := c59) (n := 29) Tryz.func59 rfl rfl rfl (by kernel_rfl) rfl rfl ?_
 have hl := Hold.start S
 refine xs (by kernel_rfl) ?_; iterate 2 refine rm rfl ?_
 refine re_end rfl ?_; refine xs (by kernel_rfl) ?_; refine rm rfl ?_
 refine re_callL hl rfl rfl rfl rfl rfl rfl rfl (spec71 a cap C hn hv) ?_; rintro v S1 hk1 rfl hl
 iterate 5 refine rm rfl ?_
 refine re_end rfl ?_; refine xp_seq rfl ?_; refine xs (by kernel_rfl) ?_; refine rm rfl ?_; refine rr rfl (rd_bin rfl rfl rfl rfl) ?_; refine re_end rfl ?_; refine xp_cond rfl rfl (fun h14 => ?_) (fun h14 => ?_)
 ·
  refine xs (by kernel_rfl) ?_; iterate 3 refine rm rfl ?_
  refine re_end rfl ?_; refine xp_ret rfl ?_
  refine thn_ret (done_ret (ress_tmp rfl (ress_tmp rfl rfl)) ⟨hl.keep, ⟨_, rfl, by rw [h14]; exact .inl ⟨rfl, rfl, rfl⟩⟩⟩)
 ·
  refine xp_skip rfl ?_; refine xs (by kernel_rfl) ?_; refine rm rfl ?_; refine re_end rfl ?_; refine xp_seq rfl ?_; refine xs (by kernel_rfl) ?_; refine rm rfl ?_; refine re_end rfl ?_; refine xp_block rfl ?_
  -- LOOP
  have hok : (ligCheck C).1 = 0 := by simpa using h14
  have h2 : 2 ≤ C.length := lig_two hok
  have hl := hl.addG (g := ⟨.slice none 0 0, 3, 1, (valsN C 0).map iv, 0⟩) (.inl ⟨rfl, rfl, rfl⟩)
  refine xe_sub (L' := [(7, .int .i64 0), (6, .slice none 0 0), (0, .slice a C.length cap)]) ⟨rfl, rfl, rfl, trivial⟩ ?_
  refine xp_loop rfl (fun m Le S' => ∃ (i : Nat) (av : Option Addr), i ≤ C.length ∧ m = C.length - i ∧ SubE [(7, .int .i64 (i : Int)), (6, .slice av i i), (0, .slice a C.length cap)] Le ∧ HoldG S [S] S' [] [⟨.slice av i i, 3, 1, (valsN C i).map iv, i⟩]) ?_ (m := C.length) ⟨0, none, by omega, by omega, ⟨rfl, rfl, rfl, trivial⟩, hl⟩
  clear hl; rintro m Le S' ⟨i, av, hi, rfl, hsub, hl⟩; refine xe_sub hsub ?_
  refine xp_seq rfl ?_; refine xs (by kernel_rfl) ?_; iterate 2 refine rm rfl ?_
  refine rr rfl (rd_len rfl rfl (len_slice Tryz.underlying22)) ?_; refine rr rfl (rd_bin rfl rfl rfl rfl) ?_; refine re_end rfl ?_; refine xp_cond rfl rfl (fun h19 => ?_) (fun h19 => ?_)
  ·
   have hlt : i < C.length := by have := of_decide_eq_true h19; omega
   refine xp_skip rfl ?_; refine xp_seq rfl ?_; refine xp_block rfl ?_; refine xg (by kernel_rfl) ?_; iterate 3 refine rm rfl ?_
   refine re_callL hl rfl rfl rfl rfl rfl rfl rfl (spec72 a cap C i hn h2 (by omega) (by omega) (hv.move (hl.since 0 rfl))) ?_; rintro v S1 hk1 rfl hl
   refine re_buildSliceR hl rfl rfl rfl rfl rfl Tryz.underlying31 rfl (c := [iv (valueE C i)]) (by kernel_rfl) ?_; intro B26 S1 hr26 hl; refine re_appendG hl 0 rfl rfl (by simp) rfl rfl rfl rfl rfl rfl rfl Tryz.underlying31 Tryz.underlying31 rfl rfl (by kernel_rfl) (src_row (new := [iv (valueE C i)]) hr26 rfl) rfl rfl (by kernel_rfl) (by show i + 1 ≤ maxNeed; unfold maxNeed; omega) ?_; intro v27 S1 hl
   obtain ⟨av2, rfl⟩ : ∃ av2, v27 = .slice av2 (i + 1) (i + 1) := Grow.is (hl.gr _ (List.mem_cons_self ..))
   refine rm rfl ?_; refine re_end rfl ?_; refine xg (by kernel_rfl) ?_; refine rm rfl ?_; refine rr rfl (rd_bin rfl rfl rfl (i6 (by omega))) ?_; refine rm rfl ?_; refine re_end rfl ?_
   refine ⟨C.length - (i + 1), by omega, i + 1, av2, by omega, rfl, ⟨rfl, rfl, rfl, trivial⟩, ?_⟩
   rw [valsN_succ, ← value_eq (by omega)]; exact hl.tail
  ·
   refine xp_exit rfl ?_; refine xs (by kernel_rfl) ?_; iterate 3 refine rm rfl ?_
   refine re_end rfl ?_; refine xp_ret rfl ?_
   refine done_ret (ress_tmp rfl (ress_tmp rfl rfl)) ⟨hl.keep, ⟨_, by rw [hok], by rw [hok]; exact valsN_grow (by have := of_decide_eq_false h19; omega) (hl.gr _ (List.mem_cons_self ..))⟩⟩
end Go.Proofs.YtkmhecihkckcmaaGreatDoor

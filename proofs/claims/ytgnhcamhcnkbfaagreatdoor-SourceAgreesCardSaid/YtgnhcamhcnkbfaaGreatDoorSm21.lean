/-
  sign.Check.
-/
import Derived.Test.YtgnhcamhcnkbfaaGreatDoorSm20
import Derived.Test.YtgnhcamhcnkbfaaGreatDoorSy2
namespace Go.Proofs.YtgnhcamhcnkbfaaGreatDoor
open Go.Cm Go
set_option maxRecDepth 100000
variable {S : St}
theorem runE_1 {b : Bool} {s : Sg} {r : List Sg} {i : Nat} (h : (one s != 0) = true) : runE b (s :: r) i = (one s, (i : Int)) := by
  rw [runE, h]; rfl
theorem runE_2 {b : Bool} {s : Sg} {r : List Sg} {i : Nat} (h : (one s != 0) = false) (h2 : (s.kind != 4) = true) : runE b (s :: r) i = runE b r (i + 1) := by
  rw [runE, h, h2]; rfl
theorem runE_3 {b : Bool} {s : Sg} {r : List Sg} {i : Nat} (h : (one s != 0) = false) (h2 : (s.kind != 4) = false) (h3 : (s.last && !b) = true) : runE b (s :: r) i = (3, (i : Int)) := by
  rw [runE, h, h2, h3]; rfl
theorem runE_4 {b : Bool} {s : Sg} {r : List Sg} {i : Nat} (h : (one s != 0) = false) (h2 : (s.kind != 4) = false) (h3 : (s.last && !b) = false) (h4 : s.last = true) : runE b (s :: r) i = runE false r (i + 1) := by
  rw [runE, h, h2, h3, h4]; rfl
theorem runE_5 {b : Bool} {s : Sg} {r : List Sg} {i : Nat} (h : (one s != 0) = false) (h2 : (s.kind != 4) = false) (h3 : (s.last && !b) = false) (h4 : s.last = false) (h5 : (!nextT r) = true) : runE b (s :: r) i = (3, (i : Int)) := by
  have h5' : nextT r = false := by simpa using h5
  rw [runE, h, h2, h3, h4, h5']; rfl
theorem runE_6 {b : Bool} {s : Sg} {r : List Sg} {i : Nat} (h : (one s != 0) = false) (h2 : (s.kind != 4) = false) (h3 : (s.last && !b) = false) (h4 : s.last = false) (h5 : (!nextT r) = false) : runE b (s :: r) i = runE true r (i + 1) := by
  have h5' : nextT r = true := by simpa using h5
  rw [runE, h, h2, h3, h4, h5']; rfl
theorem nextT_end {C : List Sg} {i : Nat} (h : C.length ≤ i) : nextT (C.drop i) = false := by rw [List.drop_eq_nil_of_le h]; rfl
theorem nextT_at {C : List Sg} {i : Nat} {s : Sg} (h : nth C i = some s) : nextT (C.drop i) = (s.kind == 4) := by rw [drop_nth' h]; rfl
noncomputable def c27 : Code := Tryz.f27.body.getD .skip
theorem spec27 (nm : ByteArray) (a : Option Addr) (cap : Nat) (C : List Sg) (hn : C.length ≤ 1000) (hG : Gl S) (hv : Signs S (.slice a C.length cap) C) : CC Tryz.prog KK 27 [aggL [.string nm, .slice a C.length cap]] S (fun v S' => Keep S S' ∧ v = tupV [.int .i64 (partE nm.data.toList C).1, .int .i64 (partE nm.data.toList C).2]) := by
  refine cc_enter (c := c27) (n := 67) Tryz.func27 rfl rfl rfl (by kernel_rfl) rfl rfl ?_
  have hl := Hold.start S
  refine xp_seq rfl ?_; refine xp_region rfl (by kernel_rfl) ?_; refine re_boxL hl rfl rfl rfl rfl rfl rfl ?_; intro B1 S1 hl; iterate 2 refine re_rd rfl rfl rfl rfl (rd_assign rfl rfl) ?_
  refine re_end rfl ?_; refine xp_scope rfl ?_; iterate 2 refine xp_seq rfl ?_
  refine xp_region rfl (by kernel_rfl) ?_; refine re_rd rfl rfl rfl rfl (rd_fieldAddr rfl rfl (fieldAddr_at Tryz.underlying27 rfl (by kernel_rfl))) ?_; refine re_rd rfl rfl rfl rfl (rd_load rfl rfl (load1_of (by kernel_rfl) (hl.get 0 rfl) rfl)) ?_
  refine re_callL hl rfl rfl rfl rfl rfl rfl rfl (spec48 nm) ?_; rintro v S1 hk1 rfl hl
  refine re_rd rfl rfl rfl rfl (rd_un rfl rfl rfl) ?_; refine re_end rfl ?_; refine xp_cond rfl rfl (fun h11 => ?_) (fun h11 => ?_)
  ·
    refine xp_seq rfl ?_; refine xp_region rfl (by kernel_rfl) ?_; iterate 2 refine re_rd rfl rfl rfl rfl (rd_assign rfl rfl) ?_
    refine re_end rfl ?_; refine xp_ret rfl ?_
    refine thn_ret (scp_ret (done_ret (ress_tmp rfl (ress_tmp rfl rfl)) ⟨hl.keep, res2 (by unfold partE; rw [h11]; rfl)⟩))
  ·
    refine xp_skip rfl ?_; iterate 2 refine xp_seq rfl ?_
    refine xp_region rfl (by kernel_rfl) ?_; refine re_rd rfl rfl rfl rfl (rd_fieldAddr rfl rfl (fieldAddr_at Tryz.underlying27 rfl (by kernel_rfl))) ?_; refine re_rd rfl rfl rfl rfl (rd_load rfl rfl (load1_of (by kernel_rfl) (hl.get 0 rfl) rfl)) ?_; refine re_rd rfl rfl rfl rfl (rd_len rfl rfl (len_slice Tryz.underlying25)) ?_; refine re_rd rfl rfl rfl rfl (rd_bin rfl rfl rfl rfl) ?_; refine re_end rfl ?_; refine xp_cond rfl rfl (fun h15 => ?_) (fun h15 => ?_)
    ·
      refine xp_seq rfl ?_; refine xp_region rfl (by kernel_rfl) ?_; iterate 2 refine re_rd rfl rfl rfl rfl (rd_assign rfl rfl) ?_
      refine re_end rfl ?_; refine xp_ret rfl ?_
      refine thn_ret (scp_ret (done_ret (ress_tmp rfl (ress_tmp rfl rfl)) ⟨hl.keep, res2 (by unfold partE; rw [h11, h15]; rfl)⟩))
    ·
      refine xp_skip rfl ?_; refine xp_seq rfl ?_; refine xp_region rfl (by kernel_rfl) ?_; refine re_rd rfl rfl rfl rfl (rd_assign rfl rfl) ?_; refine re_end rfl ?_; refine xp_seq rfl ?_; refine xp_label rfl ?_; iterate 2 refine xp_seq rfl ?_
      refine xp_region rfl (by kernel_rfl) ?_; refine re_rd rfl rfl rfl rfl (rd_fieldAddr rfl rfl (fieldAddr_at Tryz.underlying27 rfl (by kernel_rfl))) ?_; refine re_rd rfl rfl rfl rfl (rd_load rfl rfl (load1_of (by kernel_rfl) (hl.get 0 rfl) rfl)) ?_; refine re_rd rfl rfl rfl rfl (rd_len rfl rfl (len_slice Tryz.underlying25)) ?_; refine re_rd rfl rfl rfl rfl (rd_move rfl rfl) ?_; refine re_end rfl ?_; refine xp_block rfl ?_
      -- LOOP
      have hck : partE nm.data.toList C = runE false C 0 := by unfold partE; rw [h11, h15]; rfl
      refine xe_sub (L' := [(4, .bool false), (19, .int .i64 0), (18, .int .i64 C.length), (1, ptrTo B1 0)]) ⟨rfl, rfl, rfl, rfl, trivial⟩ ?_
      refine xp_loop rfl (fun m Le S' => ∃ (i : Nat) (b : Bool), i ≤ C.length ∧ m = C.length - i ∧ SubE [(4, .bool b), (19, .int .i64 (i : Int)), (18, .int .i64 C.length), (1, ptrTo B1 0)] Le ∧ runE b (C.drop i) i = runE false C 0 ∧ Hold S [S] S' [(B1, .cells [.string nm, .slice a C.length cap] 27 false true [])]) ?_ (m := C.length) ⟨0, false, by omega, rfl, ⟨rfl, rfl, rfl, rfl, trivial⟩, rfl, hl⟩
      clear hl; rintro m Le S' ⟨i, b, hi, rfl, hsub, hin, hl⟩; refine xe_sub hsub ?_
      refine xp_seq rfl ?_; refine xp_region rfl (by kernel_rfl) ?_; refine re_rd rfl rfl rfl rfl (rd_bin rfl rfl rfl rfl) ?_; refine re_end rfl ?_; refine xp_seq rfl ?_; refine xp_cond rfl rfl (fun h20 => ?_) (fun h20 => ?_)
      ·
        have hlt : i < C.length := by have := of_decide_eq_true h20; omega
        obtain ⟨s, hs⟩ := nth_some hlt
        obtain ⟨b1, o1, cs1, ha, _, hrow, htk⟩ := hv.elem hs
        refine xp_skip rfl ?_; refine xp_seq rfl ?_; refine xp_block rfl ?_; refine xp_seq rfl ?_; refine xp_region rfl (by kernel_rfl) ?_; refine re_rd rfl rfl rfl rfl (rd_move rfl rfl) ?_; refine re_rd rfl rfl rfl rfl (rd_assign rfl rfl) ?_; refine re_end rfl ?_; refine xp_seq rfl ?_; refine xp_region rfl (by kernel_rfl) ?_; refine re_rd rfl rfl rfl rfl (rd_fieldAddr rfl rfl (fieldAddr_at Tryz.underlying27 rfl (by kernel_rfl))) ?_; refine re_rd rfl rfl rfl rfl (rd_load rfl rfl (load1_of (by kernel_rfl) (hl.get 0 rfl) rfl)) ?_; refine re_rd rfl rfl rfl rfl (rd_move rfl rfl) ?_
        refine re_rd rfl rfl rfl rfl (rd_indexAddr rfl rfl rfl (indexAddr_sl (z := 17) ha Tryz.underlying25 (by kernel_rfl) ⟨by omega, by omega⟩)) ?_; refine re_rd rfl rfl rfl rfl (rd_load rfl rfl (loadN_row (z := 17) (by kernel_rfl) (by kernel_rfl) (row_move (hl.since 0 rfl) hrow) htk)) ?_; refine re_allocL hl rfl rfl rfl rfl rfl (z := [.int .i64 0, .int .i64 0, .int .i64 0, .int .i64 0, .bool false, .int .i64 0, .bool false, .bool false, .int .i64 0, .int .i64 0, .int .i64 0, .int .i64 0, .bool false, .int .i64 0, .int .i64 0, .int .i64 0, .int .i64 0]) (by kernel_rfl) ?_; intro B6 S6 hl
        refine re_storeL hl 0 rfl rfl rfl rfl rfl rfl rfl (by kernel_rfl) rfl ?_; intro S1 hl; refine re_end rfl ?_; iterate 2 refine xp_seq rfl ?_
        refine xp_region rfl (by kernel_rfl) ?_; refine re_rd rfl rfl rfl rfl (rd_load rfl rfl (loadN_of (z := 17) (by kernel_rfl) (by kernel_rfl) (hl.get 0 rfl) rfl)) ?_
        refine re_callL hl rfl rfl rfl rfl rfl rfl rfl (spec49 s (hG.keep hl.keep)) ?_; rintro v S1 hk1 rfl hl
        refine re_rd rfl rfl rfl rfl (rd_assign rfl rfl) ?_; refine re_end rfl ?_; refine xp_seq rfl ?_; refine xp_region rfl (by kernel_rfl) ?_; refine re_rd rfl rfl rfl rfl (rd_move rfl rfl) ?_; refine re_rd rfl rfl rfl rfl (rd_bin rfl rfl rfl rfl) ?_; refine re_end rfl ?_; refine xp_cond rfl rfl (fun h30 => ?_) (fun h30 => ?_)
        ·
          refine xp_seq rfl ?_; refine xp_region rfl (by kernel_rfl) ?_; iterate 2 refine re_rd rfl rfl rfl rfl (rd_move rfl rfl) ?_
          iterate 2 refine re_rd rfl rfl rfl rfl (rd_assign rfl rfl) ?_
          refine re_end rfl ?_; refine xp_ret rfl ?_
          refine thn_ret (blk_ret (thn_ret (round_ret (blk_ret (thn_ret (scp_ret (done_ret (ress_tmp rfl (ress_tmp rfl rfl)) ⟨hl.keep, res2 (by rw [hck, ← hin, drop_nth' hs, runE_1 h30])⟩)))))))
        ·
          refine xp_skip rfl ?_; refine xp_seq rfl ?_; refine xp_block rfl ?_; refine xp_seq rfl ?_; refine xp_region rfl (by kernel_rfl) ?_; refine re_rd rfl rfl rfl rfl (rd_fieldAddr rfl rfl (fieldAddr_at Tryz.underlying54 rfl (by kernel_rfl))) ?_; refine re_rd rfl rfl rfl rfl (rd_load rfl rfl (load1_of (by kernel_rfl) (hl.get 0 rfl) rfl)) ?_; refine re_rd rfl rfl rfl rfl (rd_bin rfl rfl rfl rfl) ?_; refine re_rd rfl rfl rfl rfl (rd_assign rfl rfl) ?_; refine re_end rfl ?_; refine xp_cond rfl rfl (fun h33 => ?_) (fun h33 => ?_)
          ·
            refine xp_exit rfl ?_; refine xp_region rfl (by kernel_rfl) ?_; refine re_rd rfl rfl rfl rfl (rd_bin rfl rfl rfl rfl) ?_; refine re_rd rfl rfl rfl rfl (rd_move rfl rfl) ?_; refine re_end rfl ?_
            exact ⟨C.length - (i + 1), by omega, i + 1, b, by omega, rfl, ⟨rfl, congrArg some (congrArg (Value.int .i64) (IntWalk.i64_in _ (by omega))), rfl, rfl, trivial⟩, by rw [← runE_2 h30 h33, ← drop_nth' hs]; exact hin, hl.tail⟩
          ·
            refine xp_seq rfl (xe_toE hl 37 (.bool (s.last && !b)) ?_ rfl ?_)
            ·
              refine xp_region rfl (by kernel_rfl) ?_; refine re_rd rfl rfl rfl rfl (rd_fieldAddr rfl rfl (fieldAddr_at Tryz.underlying54 rfl (by kernel_rfl))) ?_; refine re_rd rfl rfl rfl rfl (rd_load rfl rfl (load1_of (by kernel_rfl) (hl.get 0 rfl) rfl)) ?_; refine re_rd rfl rfl rfl rfl (rd_move rfl rfl) ?_; refine re_bool (d := 40) rfl (fun h40 => ?_) (fun h40 => ?_)
              ·
                refine re_rd rfl rfl rfl rfl (rd_move rfl rfl) ?_; refine re_rd rfl rfl rfl rfl (rd_un rfl rfl rfl) ?_; refine re_rd rfl rfl rfl rfl (rd_pick_t rfl rfl rfl) ?_; refine re_rd rfl rfl rfl rfl (rd_assign rfl rfl) ?_; refine re_end rfl ?_
                exact ⟨rfl, bl (by first | (simp [h40]; done) | (simp only [h40, BLs])), by repeat (first | exact subL_refl _ | refine subL_skip rfl ?_), hl⟩
              ·
                iterate 2 refine re_pass rfl rfl rfl rfl ?_
                refine re_rd rfl rfl rfl rfl (rd_pick_f rfl rfl rfl) ?_; refine re_rd rfl rfl rfl rfl (rd_assign rfl rfl) ?_; refine re_end rfl ?_
                exact ⟨rfl, bl (by first | (simp [h40]; done) | (simp only [h40, BLs])), by repeat (first | exact subL_refl _ | refine subL_skip rfl ?_), hl⟩
            intro S1 hl
            refine xp_cond rfl rfl (fun h37 => ?_) (fun h37 => ?_)
            ·
              refine xp_seq rfl ?_; refine xp_region rfl (by kernel_rfl) ?_; refine re_rd rfl rfl rfl rfl (rd_move rfl rfl) ?_; iterate 2 refine re_rd rfl rfl rfl rfl (rd_assign rfl rfl) ?_
              refine re_end rfl ?_; refine xp_ret rfl ?_
              refine blk_ret (thn_ret (blk_ret (thn_ret (round_ret (blk_ret (thn_ret (scp_ret (done_ret (ress_tmp rfl (ress_tmp rfl rfl)) ⟨hl.keep, res2 (by rw [hck, ← hin, drop_nth' hs, runE_3 h30 h33 h37])⟩))))))))
            ·
              refine xp_seq rfl ?_; refine xp_region rfl (by kernel_rfl) ?_; refine re_rd rfl rfl rfl rfl (rd_fieldAddr rfl rfl (fieldAddr_at Tryz.underlying54 rfl (by kernel_rfl))) ?_; refine re_rd rfl rfl rfl rfl (rd_load rfl rfl (load1_of (by kernel_rfl) (hl.get 0 rfl) rfl)) ?_; refine re_rd rfl rfl rfl rfl (rd_assign rfl rfl) ?_; refine re_end rfl ?_; refine xp_cond rfl rfl (fun h45 => ?_) (fun h45 => ?_)
              ·
                refine xp_seq rfl ?_; refine xp_region rfl (by kernel_rfl) ?_; refine re_rd rfl rfl rfl rfl (rd_assign rfl rfl) ?_; refine re_end rfl ?_; refine xp_exit rfl ?_; refine xp_region rfl (by kernel_rfl) ?_; refine re_rd rfl rfl rfl rfl (rd_bin rfl rfl rfl rfl) ?_; refine re_rd rfl rfl rfl rfl (rd_move rfl rfl) ?_; refine re_end rfl ?_
                exact ⟨C.length - (i + 1), by omega, i + 1, false, by omega, rfl, ⟨rfl, congrArg some (congrArg (Value.int .i64) (IntWalk.i64_in _ (by omega))), rfl, rfl, trivial⟩, by rw [← runE_4 h30 h33 h37 h45, ← drop_nth' hs]; exact hin, hl.tail⟩
              ·
                refine xp_seq rfl (xe_toE hl 48 (.bool (!nextT (C.drop (i + 1)))) ?_ rfl ?_)
                ·
                  refine xp_region rfl (by kernel_rfl) ?_; refine re_rd rfl rfl rfl rfl (rd_move rfl rfl) ?_; refine re_rd rfl rfl rfl rfl (rd_bin rfl rfl rfl (congrArg some (congrArg (Value.int .i64) (IntWalk.i64_in _ (by omega))))) ?_; refine re_rd rfl rfl rfl rfl (rd_fieldAddr rfl rfl (fieldAddr_at Tryz.underlying27 rfl (by kernel_rfl))) ?_; refine re_rd rfl rfl rfl rfl (rd_load rfl rfl (load1_of (by kernel_rfl) (hl.get 1 rfl) rfl)) ?_; refine re_rd rfl rfl rfl rfl (rd_len rfl rfl (len_slice Tryz.underlying25)) ?_; refine re_rd rfl rfl rfl rfl (rd_bin rfl rfl rfl rfl) ?_
                  refine re_rd rfl rfl rfl rfl (rd_move rfl rfl) ?_; refine re_bool (d := 55) rfl (fun h55 => ?_) (fun h55 => ?_)
                  ·
                    iterate 8 refine re_pass rfl rfl rfl rfl ?_
                    refine re_rd rfl rfl rfl rfl (rd_pick_t rfl rfl rfl) ?_; refine re_rd rfl rfl rfl rfl (rd_assign rfl rfl) ?_; refine re_end rfl ?_
                    exact ⟨rfl, bl (by rw [nextT_end (by have h := (by simpa using h55 : (i : Int) + 1 = C.length); omega)]; rfl), by repeat (first | exact subL_refl _ | refine subL_skip rfl ?_), hl⟩
                  ·
                    refine re_rd rfl rfl rfl rfl (rd_fieldAddr rfl rfl (fieldAddr_at Tryz.underlying27 rfl (by kernel_rfl))) ?_; refine re_rd rfl rfl rfl rfl (rd_load rfl rfl (load1_of (by kernel_rfl) (hl.get 1 rfl) rfl)) ?_; refine re_rd rfl rfl rfl rfl (rd_move rfl rfl) ?_; refine re_rd rfl rfl rfl rfl (rd_bin rfl rfl rfl (congrArg some (congrArg (Value.int .i64) (IntWalk.i64_in _ (by omega))))) ?_
                    have hlt2 : i + 1 < C.length := by have h := (by simpa using h55 : ¬ ((i : Int) + 1 = C.length)); omega
                    obtain ⟨s2, hs2⟩ := nth_some hlt2
                    obtain ⟨b2, o2, cs2, ha2, _, hrow2, htk2⟩ := hv.elem hs2
                    refine re_rd rfl rfl rfl rfl (rd_indexAddr rfl rfl rfl (indexAddr_sl (z := 17) ha2 Tryz.underlying25 (by kernel_rfl) ⟨by omega, by omega⟩)) ?_; refine re_rd rfl rfl rfl rfl (rd_fieldAddr rfl rfl (fieldAddr_at Tryz.underlying54 rfl (by kernel_rfl))) ?_; refine re_rd rfl rfl rfl rfl (rd_load rfl rfl (load1_row (by kernel_rfl) (row_move (hl.since 0 rfl) hrow2) (tk_nth htk2 rfl))) ?_; refine re_rd rfl rfl rfl rfl (rd_bin rfl rfl rfl rfl) ?_; refine re_rd rfl rfl rfl rfl (rd_pick_f rfl rfl rfl) ?_; refine re_rd rfl rfl rfl rfl (rd_assign rfl rfl) ?_; refine re_end rfl ?_
                    exact ⟨rfl, bl (by rw [nextT_at hs2]; rfl), by repeat (first | exact subL_refl _ | refine subL_skip rfl ?_), hl⟩
                intro S1 hl
                refine xp_cond rfl rfl (fun h48 => ?_) (fun h48 => ?_)
                ·
                  refine xp_seq rfl ?_; refine xp_region rfl (by kernel_rfl) ?_; refine re_rd rfl rfl rfl rfl (rd_move rfl rfl) ?_; iterate 2 refine re_rd rfl rfl rfl rfl (rd_assign rfl rfl) ?_
                  refine re_end rfl ?_; refine xp_ret rfl ?_
                  refine blk_ret (thn_ret (blk_ret (thn_ret (round_ret (blk_ret (thn_ret (scp_ret (done_ret (ress_tmp rfl (ress_tmp rfl rfl)) ⟨hl.keep, res2 (by rw [hck, ← hin, drop_nth' hs, runE_5 h30 h33 h37 h45 h48])⟩))))))))
                ·
                  refine xp_skip rfl ?_; refine xp_region rfl (by kernel_rfl) ?_; refine re_rd rfl rfl rfl rfl (rd_assign rfl rfl) ?_; refine re_end rfl ?_; refine xp_region rfl (by kernel_rfl) ?_; refine re_rd rfl rfl rfl rfl (rd_bin rfl rfl rfl rfl) ?_; refine re_rd rfl rfl rfl rfl (rd_move rfl rfl) ?_; refine re_end rfl ?_
                  exact ⟨C.length - (i + 1), by omega, i + 1, true, by omega, rfl, ⟨rfl, congrArg some (congrArg (Value.int .i64) (IntWalk.i64_in _ (by omega))), rfl, rfl, trivial⟩, by rw [← runE_6 h30 h33 h37 h45 h48, ← drop_nth' hs]; exact hin, hl.tail⟩
      ·
        refine xp_exit rfl ?_; refine xp_seq rfl ?_; refine xp_region rfl (by kernel_rfl) ?_; iterate 2 refine re_rd rfl rfl rfl rfl (rd_assign rfl rfl) ?_
        refine re_end rfl ?_; refine xp_ret rfl ?_
        refine scp_ret (done_ret (ress_tmp rfl (ress_tmp rfl rfl)) ⟨hl.keep, res2 (by rw [hck, ← hin, List.drop_eq_nil_of_le (by have := of_decide_eq_false h20; omega)]; rfl)⟩)

end Go.Proofs.YtgnhcamhcnkbfaaGreatDoor

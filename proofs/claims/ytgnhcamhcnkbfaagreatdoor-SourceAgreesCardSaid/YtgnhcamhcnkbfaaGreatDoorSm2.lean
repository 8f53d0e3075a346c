/-
  mens.Check, sign.One.
-/
import Derived.Test.YtgnhcamhcnkbfaaGreatDoorSm1
namespace Go.Proofs.YtgnhcamhcnkbfaaGreatDoor
open Go.Cm Go
set_option maxRecDepth 100000
variable {S : St}
noncomputable def c78 : Code := Tryz.f78.body.getD .skip
theorem spec78 (a b c d : Int) : CC Tryz.prog KK 78 [aggL [.int .i64 a, .int .i64 b, .int .i64 c, .int .i64 d]] S (fun v S' => Keep S S' ∧ v = aggL [.int .i64 a, .int .i64 b, .int .i64 c, .int .i64 d]) := by
  refine cc_enter (c := c78) (n := 12) Tryz.func78 rfl rfl rfl (by kernel_rfl) rfl rfl ?_
  have hl := Hold.start S
  refine xp_seq rfl ?_; refine xp_region rfl (by kernel_rfl) ?_; refine re_boxL hl rfl rfl rfl rfl rfl rfl ?_; intro B1 S1 hl; refine re_allocL hl rfl rfl rfl rfl rfl (z := [.int .i64 0, .int .i64 0, .int .i64 0, .int .i64 0]) (by kernel_rfl) ?_; intro B2 S2 hl; refine re_end rfl ?_; refine xp_seq rfl ?_; refine xp_region rfl (by kernel_rfl) ?_; refine re_rd rfl rfl rfl rfl (rd_fieldAddr rfl rfl (fieldAddr_at Tryz.underlying50 rfl (by kernel_rfl))) ?_; refine re_rd rfl rfl rfl rfl (rd_load rfl rfl (load1_of (by kernel_rfl) (hl.get 1 rfl) rfl)) ?_
  refine re_rd rfl rfl rfl rfl (rd_fieldAddr rfl rfl (fieldAddr_at Tryz.underlying50 rfl (by kernel_rfl))) ?_; refine re_rd rfl rfl rfl rfl (rd_load rfl rfl (load1_of (by kernel_rfl) (hl.get 1 rfl) rfl)) ?_; refine re_rd rfl rfl rfl rfl (rd_fieldAddr rfl rfl (fieldAddr_at Tryz.underlying50 rfl (by kernel_rfl))) ?_; refine re_rd rfl rfl rfl rfl (rd_load rfl rfl (load1_of (by kernel_rfl) (hl.get 1 rfl) rfl)) ?_; refine re_rd rfl rfl rfl rfl (rd_fieldAddr rfl rfl (fieldAddr_at Tryz.underlying50 rfl (by kernel_rfl))) ?_
  refine re_rd rfl rfl rfl rfl (rd_load rfl rfl (load1_of (by kernel_rfl) (hl.get 1 rfl) rfl)) ?_; refine re_rd rfl rfl rfl rfl (rd_build rfl rfl (v := aggL [.int .i64 a, .int .i64 b, .int .i64 c, .int .i64 d]) (by rfl)) ?_; refine re_storeL hl 0 rfl rfl rfl rfl rfl rfl rfl (by kernel_rfl) rfl ?_; intro S1 hl; refine re_end rfl ?_; refine xp_ret rfl ?_
  refine done_ret (ress_cell rfl (loadN_of (z := 4) (by kernel_rfl) (by kernel_rfl) (hl.get 0 rfl) rfl) rfl) ⟨hl.keep, rfl⟩

def okm (p : Int) : Bool := p == 2 || p == 3
def at4 (a b c d : Int) (i : Nat) : Int := match i with
  | 0 => a
  | 1 => b
  | 2 => c
  | _ => d
def mensE (a b c d : Int) : Int := bif okm a && okm b && okm c && okm d then 0 else 12
theorem mensE_no {a b c d : Int} {i : Nat} (h : okm (at4 a b c d i) = false) : mensE a b c d = 12 := by
  unfold mensE
  match i, h with
  | 0, h => simp only [at4] at h; simp [h]
  | 1, h => simp only [at4] at h; simp [h]
  | 2, h => simp only [at4] at h; simp [h]
  | _ + 3, h => simp only [at4] at h; simp [h]
theorem mensE_yes {a b c d : Int} (h : ∀ i, i < 4 → okm (at4 a b c d i) = true) : mensE a b c d = 0 := by
  unfold mensE
  have h0 := h 0 (by omega); have h1 := h 1 (by omega); have h2 := h 2 (by omega); have h3 := h 3 (by omega)
  simp only [at4] at h0 h1 h2 h3
  simp [h0, h1, h2, h3]
theorem at4_nth {a b c d : Int} : ∀ {i : Nat}, i < 4 → nth [Value.int .i64 a, .int .i64 b, .int .i64 c, .int .i64 d] ((i : Int).toNat * 1) = some (.int .i64 (at4 a b c d i))
  | 0, _ => rfl
  | 1, _ => rfl
  | 2, _ => rfl
  | 3, _ => rfl
noncomputable def c67 : Code := Tryz.f67.body.getD .skip
theorem spec67 (a b c d : Int) : CC Tryz.prog KK 67 [aggL [.int .i64 a, .int .i64 b, .int .i64 c, .int .i64 d]] S (fun v S' => Keep S S' ∧ v = .int .i64 (mensE a b c d)) := by
  refine cc_enter (c := c67) (n := 17) Tryz.func67 rfl rfl rfl (by kernel_rfl) rfl rfl ?_
  have hl := Hold.start S
  refine xp_seq rfl ?_; refine xp_region rfl (by kernel_rfl) ?_; refine re_boxL hl rfl rfl rfl rfl rfl rfl ?_; intro B1 S1 hl; refine re_rd rfl rfl rfl rfl (rd_assign rfl rfl) ?_; refine re_end rfl ?_; iterate 2 refine xp_seq rfl ?_
  refine xp_region rfl (by kernel_rfl) ?_; refine re_rd rfl rfl rfl rfl (rd_load rfl rfl (loadN_of (z := 4) (by kernel_rfl) (by kernel_rfl) (hl.get 0 rfl) rfl)) ?_
  refine re_callL hl rfl rfl rfl rfl rfl rfl rfl (spec78 _ _ _ _) ?_; rintro v S1 hk1 rfl hl
  refine re_rd rfl rfl rfl rfl (rd_move rfl rfl) ?_; refine re_end rfl ?_; refine xp_block rfl ?_
  -- LOOP
  refine xe_sub (L' := [(7, .int .i64 0), (6, aggL [.int .i64 a, .int .i64 b, .int .i64 c, .int .i64 d])]) ⟨rfl, rfl, trivial⟩ ?_
  refine xp_loop rfl (fun m L S' => ∃ i : Nat, i ≤ 4 ∧ m = 4 - i ∧ SubE [(7, .int .i64 (i : Int)), (6, aggL [.int .i64 a, .int .i64 b, .int .i64 c, .int .i64 d])] L ∧ (∀ j, j < i → okm (at4 a b c d j) = true) ∧ Keep S S') ?_ (m := 4) ⟨0, by omega, rfl, ⟨rfl, rfl, trivial⟩, fun j hj => by omega, hl.keep⟩
  clear hl; rintro m L S' ⟨i, hi, rfl, hs, hok, hk⟩; refine xe_sub hs ?_
  refine xp_seq rfl ?_; refine xp_region rfl (by kernel_rfl) ?_; refine re_rd rfl rfl rfl rfl (rd_bin rfl rfl rfl rfl) ?_; refine re_end rfl ?_; refine xp_seq rfl ?_; refine xp_cond rfl rfl (fun h8 => ?_) (fun h8 => ?_)
  ·
    refine xp_skip rfl ?_; refine xp_seq rfl ?_; refine xp_block rfl ?_; refine xp_seq rfl ?_; refine xp_region rfl (by kernel_rfl) ?_; refine re_rd rfl rfl rfl rfl (rd_index rfl rfl rfl (index_array1 (z := 1) (len := 4) (i := (i : Int)) (cs := [Value.int .i64 a, .int .i64 b, .int .i64 c, .int .i64 d].toArray) Tryz.underlying141 (by kernel_rfl) (by kernel_rfl) ⟨by omega, by simpa using h8⟩ (at4_nth (a := a) (b := b) (c := c) (d := d) (i := i) (by simp at h8; omega)))) ?_; refine re_rd rfl rfl rfl rfl (rd_assign rfl rfl) ?_; refine re_end rfl ?_
    refine xp_seq rfl (xe_to [(15, .bool (at4 a b c d i != 2 && at4 a b c d i != 3)), (7, .int .i64 (i : Int)), (6, aggL [.int .i64 a, .int .i64 b, .int .i64 c, .int .i64 d])] (fun S' => Keep S S') ?_ ?_)
    ·
      refine xp_region rfl (by kernel_rfl) ?_; refine re_rd rfl rfl rfl rfl (rd_move rfl rfl) ?_; refine re_rd rfl rfl rfl rfl (rd_bin rfl rfl rfl rfl) ?_; refine re_rd rfl rfl rfl rfl (rd_move rfl rfl) ?_; refine re_bool (d := 12) rfl (fun h12 => ?_) (fun h12 => ?_)
      ·
        refine re_rd rfl rfl rfl rfl (rd_move rfl rfl) ?_; refine re_rd rfl rfl rfl rfl (rd_bin rfl rfl rfl rfl) ?_; refine re_rd rfl rfl rfl rfl (rd_pick_t rfl rfl rfl) ?_; refine re_end rfl ?_
        exact ⟨rfl, ⟨bl (by first | (simp [h12]; done) | (simp only [h12, BLs])), rfl, rfl, trivial⟩, hk⟩
      ·
        iterate 2 refine re_pass rfl rfl rfl rfl ?_
        refine re_rd rfl rfl rfl rfl (rd_pick_f rfl rfl rfl) ?_; refine re_end rfl ?_
        exact ⟨rfl, ⟨bl (by first | (simp [h12]; done) | (simp only [h12, BLs])), rfl, rfl, trivial⟩, hk⟩
    clear hk; intro S1 hk
    refine xp_cond rfl rfl (fun h15 => ?_) (fun h15 => ?_)
    ·
      refine xp_seq rfl ?_; refine xp_region rfl (by kernel_rfl) ?_; refine re_rd rfl rfl rfl rfl (rd_assign rfl rfl) ?_; refine re_end rfl ?_; refine xp_ret rfl ?_
      refine blk_ret (thn_ret (round_ret (blk_ret (thn_ret (done_ret (ress_tmp rfl rfl) ⟨hk, congrArg (Value.int .i64) (mensE_no (i := i) (by simpa [okm] using h15)).symm⟩)))))
    ·
      refine xp_skip rfl ?_; refine xp_region rfl (by kernel_rfl) ?_; refine re_rd rfl rfl rfl rfl (rd_bin rfl rfl rfl rfl) ?_; refine re_rd rfl rfl rfl rfl (rd_move rfl rfl) ?_; refine re_end rfl ?_
      have hlt : i < 4 := by simp at h8; omega
      refine ⟨4 - (i + 1), by omega, i + 1, by omega, rfl, ⟨congrArg some (congrArg (Value.int .i64) (IntWalk.i64_in _ (by omega))), rfl, trivial⟩, fun j hj => ?_, hk⟩
      · rcases Nat.lt_succ_iff_lt_or_eq.1 hj with hj | rfl
        · exact hok j hj
        · revert h15; unfold okm; simp only [bne]; cases (at4 a b c d j == 2) <;> cases (at4 a b c d j == 3) <;> decide
  ·
    refine xp_exit rfl ?_; refine xp_seq rfl ?_; refine xp_region rfl (by kernel_rfl) ?_; refine re_rd rfl rfl rfl rfl (rd_assign rfl rfl) ?_; refine re_end rfl ?_; refine xp_ret rfl ?_
    refine done_ret (ress_tmp rfl rfl) ⟨hk, congrArg (Value.int .i64) (mensE_yes fun j hj => hok j (by simp at h8; omega)).symm⟩

def one (s : Sg) : Int := bif decide (s.kind < 1) || decide (s.kind > 12) then 8 else bif !decide (s = keptS s (ub s.kind 0) (ub s.kind 1) (ub s.kind 2) (ub s.kind 3) (ub s.kind 4) (ub s.kind 5) (ub s.kind 6) (ub s.kind 7) (ub s.kind 8) (ub s.kind 9) (ub s.kind 10) (ub s.kind 11)) then 3 else bif ub s.kind 7 && (mensE s.mx s.md s.tm s.pr != 0) then 12 else bif !rangedF s (ub s.kind 0) (ub s.kind 1) (ub s.kind 2) (ub s.kind 4) (ub s.kind 10) (ub s.kind 11) then 2 else bif s.oblique && s.last then 3 else 0
noncomputable def c49 : Code := Tryz.f49.body.getD .skip
theorem spec49 (s : Sg) (hG : Gl S) : CC Tryz.prog KK 49 [s.v] S (fun v S' => Keep S S' ∧ v = .int .i64 (one s)) := by
  refine cc_enter (c := c49) (n := 43) Tryz.func49 rfl rfl rfl (by kernel_rfl) rfl rfl ?_
  have hl := Hold.start S
  refine xp_seq rfl ?_; refine xp_region rfl (by kernel_rfl) ?_; refine re_boxL hl rfl rfl rfl rfl rfl rfl ?_; intro B1 S1 hl; refine re_rd rfl rfl rfl rfl (rd_assign rfl rfl) ?_; refine re_end rfl ?_; refine xp_seq rfl ?_; refine xp_seq rfl (xe_toL hl [(11, .bool (decide (s.kind < 1) || decide (s.kind > 12))), (1, ptrTo B1 0)] ?_ ?_)
  ·
    refine xp_region rfl (by kernel_rfl) ?_; refine re_rd rfl rfl rfl rfl (rd_fieldAddr rfl rfl (fieldAddr_at Tryz.underlying54 rfl (by kernel_rfl))) ?_; refine re_rd rfl rfl rfl rfl (rd_load rfl rfl (load1_of (by kernel_rfl) (hl.get 0 rfl) rfl)) ?_; refine re_rd rfl rfl rfl rfl (rd_bin rfl rfl rfl rfl) ?_; refine re_rd rfl rfl rfl rfl (rd_move rfl rfl) ?_; refine re_bool (d := 7) rfl (fun h7 => ?_) (fun h7 => ?_)
    ·
      iterate 3 refine re_pass rfl rfl rfl rfl ?_
      refine re_rd rfl rfl rfl rfl (rd_pick_t rfl rfl rfl) ?_; refine re_end rfl ?_
      exact ⟨rfl, ⟨bl (by first | (simp [h7]; done) | (simp only [h7, BLs])), rfl, trivial⟩, hl⟩
    ·
      refine re_rd rfl rfl rfl rfl (rd_fieldAddr rfl rfl (fieldAddr_at Tryz.underlying54 rfl (by kernel_rfl))) ?_; refine re_rd rfl rfl rfl rfl (rd_load rfl rfl (load1_of (by kernel_rfl) (hl.get 0 rfl) rfl)) ?_; refine re_rd rfl rfl rfl rfl (rd_bin rfl rfl rfl rfl) ?_; refine re_rd rfl rfl rfl rfl (rd_pick_f rfl rfl rfl) ?_; refine re_end rfl ?_
      exact ⟨rfl, ⟨bl (by first | (simp [h7]; done) | (simp only [h7, BLs])), rfl, trivial⟩, hl⟩
  intro S1 hl
  refine xp_cond rfl rfl (fun h11 => ?_) (fun h11 => ?_)
  ·
    refine xp_seq rfl ?_; refine xp_region rfl (by kernel_rfl) ?_; refine re_rd rfl rfl rfl rfl (rd_assign rfl rfl) ?_; refine re_end rfl ?_; refine xp_ret rfl ?_
    refine thn_ret (done_ret (ress_tmp rfl rfl) ⟨hl.keep, congrArg (Value.int .i64) (by unfold one; simp only [h11, cond_true, cond_false])⟩)
  ·
    have k1 : 1 ≤ s.kind := by simp at h11; omega
    have k2 : s.kind ≤ 12 := by simp at h11; omega
    refine xp_skip rfl ?_; refine xp_seq rfl ?_; refine xp_region rfl (by kernel_rfl) ?_; refine re_rd rfl rfl rfl rfl (rd_fieldAddr rfl rfl (fieldAddr_at Tryz.underlying54 rfl (by kernel_rfl))) ?_; refine re_rd rfl rfl rfl rfl (rd_load rfl rfl (load1_of (by kernel_rfl) (hl.get 0 rfl) rfl)) ?_; refine re_rd rfl rfl rfl rfl (rd_indexAddr rfl rfl rfl (indexAddr_array (z := 12) Tryz.underlying124 (by kernel_rfl) ⟨by omega, by omega⟩)) ?_; refine re_rd rfl rfl rfl rfl (rd_load rfl rfl (loadN_of (z := 12) (by kernel_rfl) (by kernel_rfl) ((hl.keep.2 0 hG.1).trans hG.2) (uses_at k1 k2))) ?_
    refine re_allocL hl rfl rfl rfl rfl rfl (z := [.bool false, .bool false, .bool false, .bool false, .bool false, .bool false, .bool false, .bool false, .bool false, .bool false, .bool false, .bool false]) (by kernel_rfl) ?_; intro B3 S3 hl; refine re_storeL hl 0 rfl rfl rfl rfl rfl rfl rfl (by kernel_rfl) rfl ?_; intro S1 hl; refine re_end rfl ?_; refine xp_seq rfl ?_; refine xp_block rfl ?_; refine xp_seq rfl ?_; refine xp_draw (idx := [0, 1, 2, 3, 4, 5]) rfl (by kernel_rfl) (by kernel_rfl) ?_
    iterate 2 refine rp_lk rfl rfl rfl rfl rfl (rd_load rfl rfl (loadN_of (z := 17) (by kernel_rfl) (by kernel_rfl) (hl.get 1 rfl) rfl)) ?_
    refine rp_lk rfl rfl rfl rfl rfl (rd_load rfl rfl (loadN_of (z := 12) (by kernel_rfl) (by kernel_rfl) (hl.get 0 rfl) rfl)) ?_
    refine rp_callL hl rfl rfl rfl rfl rfl rfl rfl (spec66 s _ _ _ _ _ _ _ _ _ _ _ _) ?_; rintro v S1 hk1 rfl hl; refine ⟨⟨stays_no (by kernel_rfl), stays_no (by kernel_rfl), stays_load rfl rfl (loadN_of (z := 17) (by kernel_rfl) (by kernel_rfl) (hl.get 1 rfl) rfl) (same_agg rfl (atoms_sign s)) rfl, trivial⟩, ?_⟩
    refine rp_rd rfl rfl rfl rfl rfl (rd_bin rfl rfl rfl (neSign _ _ s (keptS s (ub s.kind 0) (ub s.kind 1) (ub s.kind 2) (ub s.kind 3) (ub s.kind 4) (ub s.kind 5) (ub s.kind 6) (ub s.kind 7) (ub s.kind 8) (ub s.kind 9) (ub s.kind 10) (ub s.kind 11)))) ?_; refine rp_rd rfl rfl rfl rfl rfl (rd_assign rfl rfl) ?_; refine rp_end rfl ?_; refine xp_cond rfl rfl (fun h16 => ?_) (fun h16 => ?_)
    ·
      refine xp_seq rfl ?_; refine xp_region rfl (by kernel_rfl) ?_; refine re_rd rfl rfl rfl rfl (rd_assign rfl rfl) ?_; refine re_end rfl ?_; refine xp_ret rfl ?_
      refine blk_ret (thn_ret (done_ret (ress_tmp rfl rfl) ⟨hl.keep, congrArg (Value.int .i64) (by unfold one; simp only [h16, h11, cond_true, cond_false])⟩))
    ·
      refine xp_seq rfl (xe_toL hl [(22, .bool (ub s.kind 7 && (mensE s.mx s.md s.tm s.pr != 0))), (3, ptrTo B3 0), (1, ptrTo B1 0)] ?_ ?_)
      ·
        refine xp_region rfl (by kernel_rfl) ?_; refine re_rd rfl rfl rfl rfl (rd_fieldAddr rfl rfl (fieldAddr_at Tryz.underlying123 rfl (by kernel_rfl))) ?_; refine re_rd rfl rfl rfl rfl (rd_load rfl rfl (load1_of (by kernel_rfl) (hl.get 0 rfl) rfl)) ?_; refine re_rd rfl rfl rfl rfl (rd_move rfl rfl) ?_; refine re_bool (d := 25) rfl (fun h25 => ?_) (fun h25 => ?_)
        ·
          refine re_rd rfl rfl rfl rfl (rd_fieldAddr rfl rfl (fieldAddr_at Tryz.underlying54 rfl (by kernel_rfl))) ?_; refine re_rd rfl rfl rfl rfl (rd_load rfl rfl (loadN_of (z := 4) (by kernel_rfl) (by kernel_rfl) (hl.get 1 rfl) rfl)) ?_
          refine re_callL hl rfl rfl rfl rfl rfl rfl rfl (spec67 _ _ _ _) ?_; rintro v S1 hk1 rfl hl
          refine re_rd rfl rfl rfl rfl (rd_bin rfl rfl rfl rfl) ?_; refine re_rd rfl rfl rfl rfl (rd_pick_t rfl rfl rfl) ?_; refine re_rd rfl rfl rfl rfl (rd_assign rfl rfl) ?_; refine re_end rfl ?_
          exact ⟨rfl, ⟨bl (by first | (simp [h25]; done) | (simp only [h25, BLs])), rfl, rfl, trivial⟩, hl⟩
        ·
          iterate 4 refine re_pass rfl rfl rfl rfl ?_
          refine re_rd rfl rfl rfl rfl (rd_pick_f rfl rfl rfl) ?_; refine re_rd rfl rfl rfl rfl (rd_assign rfl rfl) ?_; refine re_end rfl ?_
          exact ⟨rfl, ⟨bl (by first | (simp [h25]; done) | (simp only [h25, BLs])), rfl, rfl, trivial⟩, hl⟩
      intro S1 hl
      refine xp_cond rfl rfl (fun h22 => ?_) (fun h22 => ?_)
      ·
        refine xp_seq rfl ?_; refine xp_region rfl (by kernel_rfl) ?_; refine re_rd rfl rfl rfl rfl (rd_assign rfl rfl) ?_; refine re_end rfl ?_; refine xp_ret rfl ?_
        refine blk_ret (thn_ret (done_ret (ress_tmp rfl rfl) ⟨hl.keep, congrArg (Value.int .i64) (by unfold one; simp only [h22, h16, h11, cond_true, cond_false])⟩))
      ·
        refine xp_seq rfl ?_; refine xp_region rfl (by kernel_rfl) ?_; refine re_rd rfl rfl rfl rfl (rd_load rfl rfl (loadN_of (z := 17) (by kernel_rfl) (by kernel_rfl) (hl.get 1 rfl) rfl)) ?_; refine re_rd rfl rfl rfl rfl (rd_load rfl rfl (loadN_of (z := 12) (by kernel_rfl) (by kernel_rfl) (hl.get 0 rfl) rfl)) ?_
        refine re_callL hl rfl rfl rfl rfl rfl rfl rfl (spec68 s _ _ _ _ _ _ _ _ _ _ _ _) ?_; rintro v S1 hk1 rfl hl
        refine re_rd rfl rfl rfl rfl (rd_un rfl rfl rfl) ?_; refine re_rd rfl rfl rfl rfl (rd_assign rfl rfl) ?_; refine re_end rfl ?_; refine xp_cond rfl rfl (fun h31 => ?_) (fun h31 => ?_)
        ·
          refine xp_seq rfl ?_; refine xp_region rfl (by kernel_rfl) ?_; refine re_rd rfl rfl rfl rfl (rd_assign rfl rfl) ?_; refine re_end rfl ?_; refine xp_ret rfl ?_
          refine blk_ret (thn_ret (done_ret (ress_tmp rfl rfl) ⟨hl.keep, congrArg (Value.int .i64) (by unfold one; simp only [h31, h22, h16, h11, cond_true, cond_false])⟩))
        ·
          refine xp_seq rfl (xe_toL hl [(36, .bool (s.oblique && s.last)), (3, ptrTo B3 0), (1, ptrTo B1 0)] ?_ ?_)
          ·
            refine xp_region rfl (by kernel_rfl) ?_; refine re_rd rfl rfl rfl rfl (rd_fieldAddr rfl rfl (fieldAddr_at Tryz.underlying54 rfl (by kernel_rfl))) ?_; refine re_rd rfl rfl rfl rfl (rd_load rfl rfl (load1_of (by kernel_rfl) (hl.get 1 rfl) rfl)) ?_; refine re_rd rfl rfl rfl rfl (rd_move rfl rfl) ?_; refine re_bool (d := 39) rfl (fun h39 => ?_) (fun h39 => ?_)
            ·
              refine re_rd rfl rfl rfl rfl (rd_fieldAddr rfl rfl (fieldAddr_at Tryz.underlying54 rfl (by kernel_rfl))) ?_; refine re_rd rfl rfl rfl rfl (rd_load rfl rfl (load1_of (by kernel_rfl) (hl.get 1 rfl) rfl)) ?_; refine re_rd rfl rfl rfl rfl (rd_pick_t rfl rfl rfl) ?_; refine re_rd rfl rfl rfl rfl (rd_assign rfl rfl) ?_; refine re_end rfl ?_
              exact ⟨rfl, ⟨bl (by first | (simp [h39]; done) | (simp only [h39, BLs])), rfl, rfl, trivial⟩, hl⟩
            ·
              iterate 2 refine re_pass rfl rfl rfl rfl ?_
              refine re_rd rfl rfl rfl rfl (rd_pick_f rfl rfl rfl) ?_; refine re_rd rfl rfl rfl rfl (rd_assign rfl rfl) ?_; refine re_end rfl ?_
              exact ⟨rfl, ⟨bl (by first | (simp [h39]; done) | (simp only [h39, BLs])), rfl, rfl, trivial⟩, hl⟩
          intro S1 hl
          refine xp_cond rfl rfl (fun h36 => ?_) (fun h36 => ?_)
          ·
            refine xp_seq rfl ?_; refine xp_region rfl (by kernel_rfl) ?_; refine re_rd rfl rfl rfl rfl (rd_assign rfl rfl) ?_; refine re_end rfl ?_; refine xp_ret rfl ?_
            refine blk_ret (thn_ret (done_ret (ress_tmp rfl rfl) ⟨hl.keep, congrArg (Value.int .i64) (by unfold one; simp only [h36, h31, h22, h16, h11, cond_true, cond_false])⟩))
          ·
            refine xp_skip rfl ?_; refine xp_seq rfl ?_; refine xp_region rfl (by kernel_rfl) ?_; refine re_rd rfl rfl rfl rfl (rd_assign rfl rfl) ?_; refine re_end rfl ?_; refine xp_ret rfl ?_
            refine done_ret (ress_tmp rfl rfl) ⟨hl.keep, congrArg (Value.int .i64) (by unfold one; simp only [h36, h31, h22, h16, h11, cond_true, cond_false])⟩

end Go.Proofs.YtgnhcamhcnkbfaaGreatDoor

/-
  The reference: mensurations, used fields.
-/
import Derived.Test.YtgmmomlgklmedaaGreatDoorSm10
namespace Go.Proofs.YtgmmomlgklmedaaGreatDoor
open Go.Cm Go
set_option maxRecDepth 100000
variable {S : St}
theorem kind_cases {k : Int} (h1 : 1 ≤ k) (h2 : k ≤ 12) : k = 1 ∨ k = 2 ∨ k = 3 ∨ k = 4 ∨ k = 5 ∨ k = 6 ∨ k = 7 ∨ k = 8 ∨ k = 9 ∨ k = 10 ∨ k = 11 ∨ k = 12 := by omega
theorem ub7 {k : Int} (h1 : 1 ≤ k) (h2 : k ≤ 12) : ub k 7 = (k == 5) := by
  rcases kind_cases h1 h2 with rfl | rfl | rfl | rfl | rfl | rfl | rfl | rfl | rfl | rfl | rfl | rfl <;> rfl
theorem kept_k {s : Sg} {k : Int} (h : s.kind = k) : keptS s (ub s.kind 0) (ub s.kind 1) (ub s.kind 2) (ub s.kind 3) (ub s.kind 4) (ub s.kind 5) (ub s.kind 6) (ub s.kind 7) (ub s.kind 8) (ub s.kind 9) (ub s.kind 10) (ub s.kind 11) = keptS s (ub k 0) (ub k 1) (ub k 2) (ub k 3) (ub k 4) (ub k 5) (ub k 6) (ub k 7) (ub k 8) (ub k 9) (ub k 10) (ub k 11) := by rw [h]
theorem rng_1 {s : Sg} (h : s.kind = 1) : rangedF s (ub s.kind 0) (ub s.kind 1) (ub s.kind 2) (ub s.kind 4) (ub s.kind 10) (ub s.kind 11) = rangedF s true true true false false false := by rw [h]; rfl
theorem rng_2 {s : Sg} (h : s.kind = 2) : rangedF s (ub s.kind 0) (ub s.kind 1) (ub s.kind 2) (ub s.kind 4) (ub s.kind 10) (ub s.kind 11) = rangedF s true false false false false false := by rw [h]; rfl
theorem rng_3 {s : Sg} (h : s.kind = 3) : rangedF s (ub s.kind 0) (ub s.kind 1) (ub s.kind 2) (ub s.kind 4) (ub s.kind 10) (ub s.kind 11) = rangedF s false false false false false false := by rw [h]; rfl
theorem rng_4 {s : Sg} (h : s.kind = 4) : rangedF s (ub s.kind 0) (ub s.kind 1) (ub s.kind 2) (ub s.kind 4) (ub s.kind 10) (ub s.kind 11) = rangedF s false true true true false false := by rw [h]; rfl
theorem rng_5 {s : Sg} (h : s.kind = 5) : rangedF s (ub s.kind 0) (ub s.kind 1) (ub s.kind 2) (ub s.kind 4) (ub s.kind 10) (ub s.kind 11) = rangedF s false false false false false false := by rw [h]; rfl
theorem rng_6 {s : Sg} (h : s.kind = 6) : rangedF s (ub s.kind 0) (ub s.kind 1) (ub s.kind 2) (ub s.kind 4) (ub s.kind 10) (ub s.kind 11) = rangedF s false false false false true false := by rw [h]; rfl
theorem rng_7 {s : Sg} (h : s.kind = 7) : rangedF s (ub s.kind 0) (ub s.kind 1) (ub s.kind 2) (ub s.kind 4) (ub s.kind 10) (ub s.kind 11) = rangedF s false false false false false true := by rw [h]; rfl
theorem rng_8 {s : Sg} (h : s.kind = 8) : rangedF s (ub s.kind 0) (ub s.kind 1) (ub s.kind 2) (ub s.kind 4) (ub s.kind 10) (ub s.kind 11) = rangedF s false false false false false false := by rw [h]; rfl
theorem rng_9 {s : Sg} (h : s.kind = 9) : rangedF s (ub s.kind 0) (ub s.kind 1) (ub s.kind 2) (ub s.kind 4) (ub s.kind 10) (ub s.kind 11) = rangedF s false false false false false false := by rw [h]; rfl
theorem rng_10 {s : Sg} (h : s.kind = 10) : rangedF s (ub s.kind 0) (ub s.kind 1) (ub s.kind 2) (ub s.kind 4) (ub s.kind 10) (ub s.kind 11) = rangedF s false false false false false false := by rw [h]; rfl
theorem rng_11 {s : Sg} (h : s.kind = 11) : rangedF s (ub s.kind 0) (ub s.kind 1) (ub s.kind 2) (ub s.kind 4) (ub s.kind 10) (ub s.kind 11) = rangedF s false false false false false false := by rw [h]; rfl
theorem rng_12 {s : Sg} (h : s.kind = 12) : rangedF s (ub s.kind 0) (ub s.kind 1) (ub s.kind 2) (ub s.kind 4) (ub s.kind 10) (ub s.kind 11) = rangedF s false false false false false false := by rw [h]; rfl
noncomputable def c73 : Code := Tryz.f73.body.getD .skip
theorem spec73 (a b c d : Int) : CC Tryz.prog KK 73 [aggL [.int .i64 a, .int .i64 b, .int .i64 c, .int .i64 d]] S (fun v S' => Keep S S' ∧ v = .int .i64 (mensE a b c d)) := by
  refine cc_enter (c := c73) (n := 32) Tryz.func73 rfl rfl rfl (by kernel_rfl) rfl rfl ?_
  have hl := Hold.start S
  refine xp_seq rfl ?_
  refine xp_region rfl (by kernel_rfl) ?_
  refine re_boxL hl rfl rfl rfl rfl rfl rfl ?_; intro B1 S1 hl
  refine re_rd rfl rfl rfl rfl (rd_assign rfl rfl) ?_
  refine re_end rfl ?_
  refine xp_seq rfl ?_
  refine xp_region rfl (by kernel_rfl) ?_
  refine re_rd rfl rfl rfl rfl (rd_fieldAddr rfl rfl (fieldAddr_at Tryz.underlying46 rfl (by kernel_rfl))) ?_
  refine re_rd rfl rfl rfl rfl (rd_load rfl rfl (load1_of (by kernel_rfl) (hl.get 0 rfl) rfl)) ?_
  refine re_rd rfl rfl rfl rfl (rd_fieldAddr rfl rfl (fieldAddr_at Tryz.underlying46 rfl (by kernel_rfl))) ?_
  refine re_rd rfl rfl rfl rfl (rd_load rfl rfl (load1_of (by kernel_rfl) (hl.get 0 rfl) rfl)) ?_
  refine re_rd rfl rfl rfl rfl (rd_fieldAddr rfl rfl (fieldAddr_at Tryz.underlying46 rfl (by kernel_rfl))) ?_
  refine re_rd rfl rfl rfl rfl (rd_load rfl rfl (load1_of (by kernel_rfl) (hl.get 0 rfl) rfl)) ?_
  refine re_rd rfl rfl rfl rfl (rd_fieldAddr rfl rfl (fieldAddr_at Tryz.underlying46 rfl (by kernel_rfl))) ?_
  refine re_rd rfl rfl rfl rfl (rd_load rfl rfl (load1_of (by kernel_rfl) (hl.get 0 rfl) rfl)) ?_
  refine re_buildSliceR hl rfl rfl rfl rfl rfl Tryz.underlying39 rfl (c := [Value.int .i64 a, .int .i64 b, .int .i64 c, .int .i64 d]) (by kernel_rfl) ?_; intro B13 S1 hr13 hl
  refine re_rd rfl rfl rfl rfl (rd_assign rfl rfl) ?_
  refine re_end rfl ?_
  refine xp_seq rfl ?_
  refine xp_seq rfl ?_
  refine xp_region rfl (by kernel_rfl) ?_
  refine re_rd rfl rfl rfl rfl (rd_assign rfl rfl) ?_
  refine re_end rfl ?_
  refine xp_block rfl ?_
  -- LOOP
  refine xe_sub (L' := [(4, .int .i64 0), (3, .slice (some ⟨B13, 0, none⟩) 4 4)]) ⟨rfl, rfl, trivial⟩ ?_
  refine xp_loop rfl (fun m Le S' => ∃ i : Nat, i ≤ 4 ∧ m = 4 - i ∧ SubE [(4, .int .i64 (i : Int)), (3, .slice (some ⟨B13, 0, none⟩) 4 4)] Le ∧ (∀ j, j < i → okm (at4 a b c d j) = true) ∧ RowAt S' B13 3 [Value.int .i64 a, .int .i64 b, .int .i64 c, .int .i64 d] ∧ Keep S S') ?_ (m := 4) ⟨0, by omega, rfl, ⟨rfl, rfl, trivial⟩, fun j hj => by omega, hr13, hl.keep⟩
  clear hr13 hl; rintro m Le S' ⟨i, hi, rfl, hsub, hok, hr, hk⟩; refine xe_sub hsub ?_
  refine xp_seq rfl ?_
  refine xp_seq rfl ?_
  refine xp_region rfl (by kernel_rfl) ?_
  refine re_rd rfl rfl rfl rfl (rd_move rfl rfl) ?_
  refine re_rd rfl rfl rfl rfl (rd_move rfl rfl) ?_
  refine re_rd rfl rfl rfl rfl (rd_len rfl rfl (len_slice Tryz.underlying39)) ?_
  refine re_rd rfl rfl rfl rfl (rd_bin rfl rfl rfl rfl) ?_
  refine re_end rfl ?_
  refine xp_cond rfl rfl (fun h17 => ?_) (fun h17 => ?_)
  ·
    have hlt : i < 4 := by have := of_decide_eq_true h17; omega
    refine xp_skip rfl ?_
    refine xp_seq rfl ?_
    refine xp_block rfl ?_
    refine xp_seq rfl (xe_to [(31, .bool (at4 a b c d i != 2 && at4 a b c d i != 3)), (4, .int .i64 (i : Int)), (3, .slice (some ⟨B13, 0, none⟩) 4 4)] (fun S2 => S2 = S') ?_ ?_)
    ·
      refine xp_region rfl (by kernel_rfl) ?_
      refine re_rd rfl rfl rfl rfl (rd_move rfl rfl) ?_
      refine re_rd rfl rfl rfl rfl (rd_move rfl rfl) ?_
      refine re_rd rfl rfl rfl rfl (rd_indexAddr rfl rfl rfl (indexAddr_slice (z := 1) Tryz.underlying39 (by kernel_rfl) ⟨by omega, by omega⟩)) ?_
      refine re_rd rfl rfl rfl rfl (rd_load rfl rfl (load1_row (by kernel_rfl) hr (by rw [Nat.zero_add]; exact at4_nth (a := a) (b := b) (c := c) (d := d) (i := i) hlt))) ?_
      refine re_rd rfl rfl rfl rfl (rd_bin rfl rfl rfl rfl) ?_
      refine re_rd rfl rfl rfl rfl (rd_move rfl rfl) ?_
      refine re_bool (d := 25) rfl (fun h25 => ?_) (fun h25 => ?_)
      ·
        refine re_rd rfl rfl rfl rfl (rd_move rfl rfl) ?_
        refine re_rd rfl rfl rfl rfl (rd_move rfl rfl) ?_
        refine re_rd rfl rfl rfl rfl (rd_indexAddr rfl rfl rfl (indexAddr_slice (z := 1) Tryz.underlying39 (by kernel_rfl) ⟨by omega, by omega⟩)) ?_
        refine re_rd rfl rfl rfl rfl (rd_load rfl rfl (load1_row (by kernel_rfl) hr (by rw [Nat.zero_add]; exact at4_nth (a := a) (b := b) (c := c) (d := d) (i := i) hlt))) ?_
        refine re_rd rfl rfl rfl rfl (rd_bin rfl rfl rfl rfl) ?_
        refine re_rd rfl rfl rfl rfl (rd_pick_t rfl rfl rfl) ?_
        refine re_end rfl ?_
        exact ⟨rfl, ⟨bl (by first | (simp [h25]; done) | (simp only [h25, BLs])), rfl, rfl, trivial⟩, rfl⟩
      ·
        refine re_pass rfl rfl rfl rfl ?_
        refine re_pass rfl rfl rfl rfl ?_
        refine re_pass rfl rfl rfl rfl ?_
        refine re_pass rfl rfl rfl rfl ?_
        refine re_pass rfl rfl rfl rfl ?_
        refine re_rd rfl rfl rfl rfl (rd_pick_f rfl rfl rfl) ?_
        refine re_end rfl ?_
        exact ⟨rfl, ⟨bl (by first | (simp [h25]; done) | (simp only [h25, BLs])), rfl, rfl, trivial⟩, rfl⟩
    rintro _ rfl
    refine xp_cond rfl rfl (fun h31 => ?_) (fun h31 => ?_)
    ·
      refine xp_seq rfl ?_
      refine xp_region rfl (by kernel_rfl) ?_
      refine re_rd rfl rfl rfl rfl (rd_assign rfl rfl) ?_
      refine re_end rfl ?_
      refine xp_ret rfl ?_
      refine blk_ret (thn_ret (round_ret (blk_ret (thn_ret (done_ret (ress_tmp rfl rfl) ⟨hk, congrArg (Value.int .i64) (mensE_no (i := i) (by revert h31; unfold okm; simp only [bne]; cases (at4 a b c d i == 2) <;> cases (at4 a b c d i == 3) <;> decide)).symm⟩)))))
    ·
      refine xp_skip rfl ?_
      refine xp_region rfl (by kernel_rfl) ?_
      refine re_rd rfl rfl rfl rfl (rd_move rfl rfl) ?_
      refine re_rd rfl rfl rfl rfl (rd_bin rfl rfl rfl rfl) ?_
      refine re_rd rfl rfl rfl rfl (rd_assign rfl rfl) ?_
      refine re_end rfl ?_
      refine ⟨4 - (i + 1), by omega, i + 1, by omega, rfl, ⟨congrArg some (congrArg (Value.int .i64) (IntWalk.i64_in _ (by omega))), rfl, trivial⟩, fun j hj => ?_, hr, hk⟩
      rcases Nat.lt_succ_iff_lt_or_eq.1 hj with hj | rfl
      · exact hok j hj
      · revert h31; unfold okm; simp only [bne]; cases (at4 a b c d j == 2) <;> cases (at4 a b c d j == 3) <;> decide
  ·
    refine xp_exit rfl ?_
    refine xp_seq rfl ?_
    refine xp_region rfl (by kernel_rfl) ?_
    refine re_rd rfl rfl rfl rfl (rd_assign rfl rfl) ?_
    refine re_end rfl ?_
    refine xp_ret rfl ?_
    refine done_ret (ress_tmp rfl rfl) ⟨hk, congrArg (Value.int .i64) (mensE_yes fun j hj => hok j (by have := of_decide_eq_false h17; omega)).symm⟩

noncomputable def c72 : Code := Tryz.f72.body.getD .skip
theorem spec72 (s : Sg) (k1 : 1 ≤ s.kind) (k2 : s.kind ≤ 12) : CC Tryz.prog KK 72 [s.v] S (fun v S' => Keep S S' ∧ v = (keptS s (ub s.kind 0) (ub s.kind 1) (ub s.kind 2) (ub s.kind 3) (ub s.kind 4) (ub s.kind 5) (ub s.kind 6) (ub s.kind 7) (ub s.kind 8) (ub s.kind 9) (ub s.kind 10) (ub s.kind 11)).v) := by
  refine cc_enter (c := c72) (n := 76) Tryz.func72 rfl rfl rfl (by kernel_rfl) rfl rfl ?_
  have hl := Hold.start S
  refine xp_seq rfl ?_
  refine xp_region rfl (by kernel_rfl) ?_
  refine re_boxL hl rfl rfl rfl rfl rfl rfl ?_; intro B1 S1 hl
  refine re_allocL hl rfl rfl rfl rfl rfl (z := [.int .i64 0, .int .i64 0, .int .i64 0, .int .i64 0, .bool false, .int .i64 0, .bool false, .bool false, .int .i64 0, .int .i64 0, .int .i64 0, .int .i64 0, .bool false, .int .i64 0, .int .i64 0, .int .i64 0, .int .i64 0]) (by kernel_rfl) ?_; intro B2 S2 hl
  refine re_end rfl ?_
  refine xp_seq rfl ?_
  refine xp_region rfl (by kernel_rfl) ?_
  refine re_rd rfl rfl rfl rfl (rd_fieldAddr rfl rfl (fieldAddr_at Tryz.underlying50 rfl (by kernel_rfl))) ?_
  refine re_rd rfl rfl rfl rfl (rd_load rfl rfl (load1_of (by kernel_rfl) (hl.get 1 rfl) rfl)) ?_
  refine re_rd rfl rfl rfl rfl (rd_build rfl rfl (v := aggL [.int .i64 s.kind, .int .i64 0, .int .i64 0, .int .i64 0, .bool false, .int .i64 0, .bool false, .bool false, .int .i64 0, .int .i64 0, .int .i64 0, .int .i64 0, .bool false, .int .i64 0, .int .i64 0, .int .i64 0, .int .i64 0]) (by rfl)) ?_
  refine re_allocL hl rfl rfl rfl rfl rfl (z := [.int .i64 0, .int .i64 0, .int .i64 0, .int .i64 0, .bool false, .int .i64 0, .bool false, .bool false, .int .i64 0, .int .i64 0, .int .i64 0, .int .i64 0, .bool false, .int .i64 0, .int .i64 0, .int .i64 0, .int .i64 0]) (by kernel_rfl) ?_; intro B3 S3 hl
  refine re_storeL hl 0 rfl rfl rfl rfl rfl rfl rfl (by kernel_rfl) rfl ?_; intro S1 hl
  refine re_end rfl ?_
  refine xp_seq rfl ?_
  refine xp_seq rfl ?_
  refine xp_region rfl (by kernel_rfl) ?_
  refine re_rd rfl rfl rfl rfl (rd_fieldAddr rfl rfl (fieldAddr_at Tryz.underlying50 rfl (by kernel_rfl))) ?_
  refine re_rd rfl rfl rfl rfl (rd_load rfl rfl (load1_of (by kernel_rfl) (hl.get 2 rfl) rfl)) ?_
  refine re_end rfl ?_
  refine xp_block rfl ?_
  refine xp_seq rfl ?_
  refine xp_region rfl (by kernel_rfl) ?_
  refine re_rd rfl rfl rfl rfl (rd_bin rfl rfl rfl rfl) ?_
  refine re_rd rfl rfl rfl rfl (rd_assign rfl rfl) ?_
  refine re_end rfl ?_
  refine xp_cond rfl rfl (fun h9 => ?_) (fun h9 => ?_)
  ·
    refine xp_draw (idx := [0, 1, 2, 3, 4, 5, 6, 7, 8, 9, 10, 11, 12, 13, 14, 15]) rfl (by kernel_rfl) (by kernel_rfl) ?_
    refine rp_rd rfl rfl rfl rfl rfl (rd_fieldAddr rfl rfl (fieldAddr_at Tryz.underlying50 rfl (by kernel_rfl))) ?_
    refine rp_lk rfl rfl rfl rfl rfl (rd_load rfl rfl (load1_of (by kernel_rfl) (hl.get 2 rfl) rfl)) ?_
    refine rp_rd rfl rfl rfl rfl rfl (rd_fieldAddr rfl rfl (fieldAddr_at Tryz.underlying50 rfl (by kernel_rfl))) ?_
    refine rp_lk rfl rfl rfl rfl rfl (rd_load rfl rfl (load1_of (by kernel_rfl) (hl.get 2 rfl) rfl)) ?_
    refine rp_rd rfl rfl rfl rfl rfl (rd_fieldAddr rfl rfl (fieldAddr_at Tryz.underlying50 rfl (by kernel_rfl))) ?_
    refine rp_lk rfl rfl rfl rfl rfl (rd_load rfl rfl (load1_of (by kernel_rfl) (hl.get 2 rfl) rfl)) ?_
    refine rp_rd rfl rfl rfl rfl rfl (rd_fieldAddr rfl rfl (fieldAddr_at Tryz.underlying50 rfl (by kernel_rfl))) ?_
    refine rp_lk rfl rfl rfl rfl rfl (rd_load rfl rfl (load1_of (by kernel_rfl) (hl.get 2 rfl) rfl)) ?_
    refine rp_rd rfl rfl rfl rfl rfl (rd_fieldAddr rfl rfl (fieldAddr_at Tryz.underlying50 rfl (by kernel_rfl))) ?_
    refine rp_storeL hl 0 rfl rfl rfl rfl rfl rfl rfl (by kernel_rfl) rfl ?_; intro S1 hl; refine ⟨stays_of (⟨(by first | exact stays_load (X := True) rfl rfl (load1_of (by kernel_rfl) (hl.get 2 rfl) rfl) (same_atom (atom_int _ _)) rfl trivial | exact stays_load (X := True) rfl rfl (load1_of (by kernel_rfl) (hl.get 2 rfl) rfl) (same_atom (atom_bool _)) rfl trivial | exact stays_load (X := True) rfl rfl (loadN_of (z := 4) (by kernel_rfl) (by kernel_rfl) (hl.get 2 rfl) rfl) (same_agg rfl (atoms_cons (atom_int _ _) (atoms_cons (atom_int _ _) (atoms_cons (atom_int _ _) (atoms_cons (atom_int _ _) atoms_nil))))) rfl trivial), (by first | exact stays_load (X := True) rfl rfl (load1_of (by kernel_rfl) (hl.get 2 rfl) rfl) (same_atom (atom_int _ _)) rfl trivial | exact stays_load (X := True) rfl rfl (load1_of (by kernel_rfl) (hl.get 2 rfl) rfl) (same_atom (atom_bool _)) rfl trivial | exact stays_load (X := True) rfl rfl (loadN_of (z := 4) (by kernel_rfl) (by kernel_rfl) (hl.get 2 rfl) rfl) (same_agg rfl (atoms_cons (atom_int _ _) (atoms_cons (atom_int _ _) (atoms_cons (atom_int _ _) (atoms_cons (atom_int _ _) atoms_nil))))) rfl trivial), (by first | exact stays_load (X := True) rfl rfl (load1_of (by kernel_rfl) (hl.get 2 rfl) rfl) (same_atom (atom_int _ _)) rfl trivial | exact stays_load (X := True) rfl rfl (load1_of (by kernel_rfl) (hl.get 2 rfl) rfl) (same_atom (atom_bool _)) rfl trivial | exact stays_load (X := True) rfl rfl (loadN_of (z := 4) (by kernel_rfl) (by kernel_rfl) (hl.get 2 rfl) rfl) (same_agg rfl (atoms_cons (atom_int _ _) (atoms_cons (atom_int _ _) (atoms_cons (atom_int _ _) (atoms_cons (atom_int _ _) atoms_nil))))) rfl trivial), (by first | exact stays_load (X := True) rfl rfl (load1_of (by kernel_rfl) (hl.get 2 rfl) rfl) (same_atom (atom_int _ _)) rfl trivial | exact stays_load (X := True) rfl rfl (load1_of (by kernel_rfl) (hl.get 2 rfl) rfl) (same_atom (atom_bool _)) rfl trivial | exact stays_load (X := True) rfl rfl (loadN_of (z := 4) (by kernel_rfl) (by kernel_rfl) (hl.get 2 rfl) rfl) (same_agg rfl (atoms_cons (atom_int _ _) (atoms_cons (atom_int _ _) (atoms_cons (atom_int _ _) (atoms_cons (atom_int _ _) atoms_nil))))) rfl trivial), trivial⟩), ?_⟩
    refine rp_rd rfl rfl rfl rfl rfl (rd_fieldAddr rfl rfl (fieldAddr_at Tryz.underlying50 rfl (by kernel_rfl))) ?_
    refine rp_storeL hl 0 rfl rfl rfl rfl rfl rfl rfl (by kernel_rfl) rfl ?_; intro S1 hl; refine ⟨stays_of (allE_left (⟨(by first | exact stays_load (X := True) rfl rfl (load1_of (by kernel_rfl) (hl.get 2 rfl) rfl) (same_atom (atom_int _ _)) rfl trivial | exact stays_load (X := True) rfl rfl (load1_of (by kernel_rfl) (hl.get 2 rfl) rfl) (same_atom (atom_bool _)) rfl trivial | exact stays_load (X := True) rfl rfl (loadN_of (z := 4) (by kernel_rfl) (by kernel_rfl) (hl.get 2 rfl) rfl) (same_agg rfl (atoms_cons (atom_int _ _) (atoms_cons (atom_int _ _) (atoms_cons (atom_int _ _) (atoms_cons (atom_int _ _) atoms_nil))))) rfl trivial), (by first | exact stays_load (X := True) rfl rfl (load1_of (by kernel_rfl) (hl.get 2 rfl) rfl) (same_atom (atom_int _ _)) rfl trivial | exact stays_load (X := True) rfl rfl (load1_of (by kernel_rfl) (hl.get 2 rfl) rfl) (same_atom (atom_bool _)) rfl trivial | exact stays_load (X := True) rfl rfl (loadN_of (z := 4) (by kernel_rfl) (by kernel_rfl) (hl.get 2 rfl) rfl) (same_agg rfl (atoms_cons (atom_int _ _) (atoms_cons (atom_int _ _) (atoms_cons (atom_int _ _) (atoms_cons (atom_int _ _) atoms_nil))))) rfl trivial), (by first | exact stays_load (X := True) rfl rfl (load1_of (by kernel_rfl) (hl.get 2 rfl) rfl) (same_atom (atom_int _ _)) rfl trivial | exact stays_load (X := True) rfl rfl (load1_of (by kernel_rfl) (hl.get 2 rfl) rfl) (same_atom (atom_bool _)) rfl trivial | exact stays_load (X := True) rfl rfl (loadN_of (z := 4) (by kernel_rfl) (by kernel_rfl) (hl.get 2 rfl) rfl) (same_agg rfl (atoms_cons (atom_int _ _) (atoms_cons (atom_int _ _) (atoms_cons (atom_int _ _) (atoms_cons (atom_int _ _) atoms_nil))))) rfl trivial), (by first | exact stays_load (X := True) rfl rfl (load1_of (by kernel_rfl) (hl.get 2 rfl) rfl) (same_atom (atom_int _ _)) rfl trivial | exact stays_load (X := True) rfl rfl (load1_of (by kernel_rfl) (hl.get 2 rfl) rfl) (same_atom (atom_bool _)) rfl trivial | exact stays_load (X := True) rfl rfl (loadN_of (z := 4) (by kernel_rfl) (by kernel_rfl) (hl.get 2 rfl) rfl) (same_agg rfl (atoms_cons (atom_int _ _) (atoms_cons (atom_int _ _) (atoms_cons (atom_int _ _) (atoms_cons (atom_int _ _) atoms_nil))))) rfl trivial), trivial⟩)), ?_⟩
    refine rp_rd rfl rfl rfl rfl rfl (rd_fieldAddr rfl rfl (fieldAddr_at Tryz.underlying50 rfl (by kernel_rfl))) ?_
    refine rp_storeL hl 0 rfl rfl rfl rfl rfl rfl rfl (by kernel_rfl) rfl ?_; intro S1 hl; refine ⟨stays_of (allE_left (allE_left (⟨(by first | exact stays_load (X := True) rfl rfl (load1_of (by kernel_rfl) (hl.get 2 rfl) rfl) (same_atom (atom_int _ _)) rfl trivial | exact stays_load (X := True) rfl rfl (load1_of (by kernel_rfl) (hl.get 2 rfl) rfl) (same_atom (atom_bool _)) rfl trivial | exact stays_load (X := True) rfl rfl (loadN_of (z := 4) (by kernel_rfl) (by kernel_rfl) (hl.get 2 rfl) rfl) (same_agg rfl (atoms_cons (atom_int _ _) (atoms_cons (atom_int _ _) (atoms_cons (atom_int _ _) (atoms_cons (atom_int _ _) atoms_nil))))) rfl trivial), (by first | exact stays_load (X := True) rfl rfl (load1_of (by kernel_rfl) (hl.get 2 rfl) rfl) (same_atom (atom_int _ _)) rfl trivial | exact stays_load (X := True) rfl rfl (load1_of (by kernel_rfl) (hl.get 2 rfl) rfl) (same_atom (atom_bool _)) rfl trivial | exact stays_load (X := True) rfl rfl (loadN_of (z := 4) (by kernel_rfl) (by kernel_rfl) (hl.get 2 rfl) rfl) (same_agg rfl (atoms_cons (atom_int _ _) (atoms_cons (atom_int _ _) (atoms_cons (atom_int _ _) (atoms_cons (atom_int _ _) atoms_nil))))) rfl trivial), (by first | exact stays_load (X := True) rfl rfl (load1_of (by kernel_rfl) (hl.get 2 rfl) rfl) (same_atom (atom_int _ _)) rfl trivial | exact stays_load (X := True) rfl rfl (load1_of (by kernel_rfl) (hl.get 2 rfl) rfl) (same_atom (atom_bool _)) rfl trivial | exact stays_load (X := True) rfl rfl (loadN_of (z := 4) (by kernel_rfl) (by kernel_rfl) (hl.get 2 rfl) rfl) (same_agg rfl (atoms_cons (atom_int _ _) (atoms_cons (atom_int _ _) (atoms_cons (atom_int _ _) (atoms_cons (atom_int _ _) atoms_nil))))) rfl trivial), (by first | exact stays_load (X := True) rfl rfl (load1_of (by kernel_rfl) (hl.get 2 rfl) rfl) (same_atom (atom_int _ _)) rfl trivial | exact stays_load (X := True) rfl rfl (load1_of (by kernel_rfl) (hl.get 2 rfl) rfl) (same_atom (atom_bool _)) rfl trivial | exact stays_load (X := True) rfl rfl (loadN_of (z := 4) (by kernel_rfl) (by kernel_rfl) (hl.get 2 rfl) rfl) (same_agg rfl (atoms_cons (atom_int _ _) (atoms_cons (atom_int _ _) (atoms_cons (atom_int _ _) (atoms_cons (atom_int _ _) atoms_nil))))) rfl trivial), trivial⟩))), ?_⟩
    refine rp_rd rfl rfl rfl rfl rfl (rd_fieldAddr rfl rfl (fieldAddr_at Tryz.underlying50 rfl (by kernel_rfl))) ?_
    refine rp_storeL hl 0 rfl rfl rfl rfl rfl rfl rfl (by kernel_rfl) rfl ?_; intro S1 hl; refine ⟨stays_of (allE_left (allE_left (allE_left (⟨(by first | exact stays_load (X := True) rfl rfl (load1_of (by kernel_rfl) (hl.get 2 rfl) rfl) (same_atom (atom_int _ _)) rfl trivial | exact stays_load (X := True) rfl rfl (load1_of (by kernel_rfl) (hl.get 2 rfl) rfl) (same_atom (atom_bool _)) rfl trivial | exact stays_load (X := True) rfl rfl (loadN_of (z := 4) (by kernel_rfl) (by kernel_rfl) (hl.get 2 rfl) rfl) (same_agg rfl (atoms_cons (atom_int _ _) (atoms_cons (atom_int _ _) (atoms_cons (atom_int _ _) (atoms_cons (atom_int _ _) atoms_nil))))) rfl trivial), (by first | exact stays_load (X := True) rfl rfl (load1_of (by kernel_rfl) (hl.get 2 rfl) rfl) (same_atom (atom_int _ _)) rfl trivial | exact stays_load (X := True) rfl rfl (load1_of (by kernel_rfl) (hl.get 2 rfl) rfl) (same_atom (atom_bool _)) rfl trivial | exact stays_load (X := True) rfl rfl (loadN_of (z := 4) (by kernel_rfl) (by kernel_rfl) (hl.get 2 rfl) rfl) (same_agg rfl (atoms_cons (atom_int _ _) (atoms_cons (atom_int _ _) (atoms_cons (atom_int _ _) (atoms_cons (atom_int _ _) atoms_nil))))) rfl trivial), (by first | exact stays_load (X := True) rfl rfl (load1_of (by kernel_rfl) (hl.get 2 rfl) rfl) (same_atom (atom_int _ _)) rfl trivial | exact stays_load (X := True) rfl rfl (load1_of (by kernel_rfl) (hl.get 2 rfl) rfl) (same_atom (atom_bool _)) rfl trivial | exact stays_load (X := True) rfl rfl (loadN_of (z := 4) (by kernel_rfl) (by kernel_rfl) (hl.get 2 rfl) rfl) (same_agg rfl (atoms_cons (atom_int _ _) (atoms_cons (atom_int _ _) (atoms_cons (atom_int _ _) (atoms_cons (atom_int _ _) atoms_nil))))) rfl trivial), (by first | exact stays_load (X := True) rfl rfl (load1_of (by kernel_rfl) (hl.get 2 rfl) rfl) (same_atom (atom_int _ _)) rfl trivial | exact stays_load (X := True) rfl rfl (load1_of (by kernel_rfl) (hl.get 2 rfl) rfl) (same_atom (atom_bool _)) rfl trivial | exact stays_load (X := True) rfl rfl (loadN_of (z := 4) (by kernel_rfl) (by kernel_rfl) (hl.get 2 rfl) rfl) (same_agg rfl (atoms_cons (atom_int _ _) (atoms_cons (atom_int _ _) (atoms_cons (atom_int _ _) (atoms_cons (atom_int _ _) atoms_nil))))) rfl trivial), trivial⟩)))), ?_⟩
    refine rp_end rfl ?_
    refine xp_seq rfl ?_
    refine xp_region rfl (by kernel_rfl) ?_
    refine re_rd rfl rfl rfl rfl (rd_load rfl rfl (loadN_of (z := 17) (by kernel_rfl) (by kernel_rfl) (hl.get 0 rfl) rfl)) ?_
    refine re_storeL hl 1 rfl rfl rfl rfl rfl rfl rfl (by kernel_rfl) rfl ?_; intro S1 hl
    refine re_end rfl ?_
    refine xp_ret rfl ?_
    refine done_ret (ress_cell rfl (loadN_of (z := 17) (by kernel_rfl) (by kernel_rfl) (hl.get 1 rfl) rfl) rfl) ⟨hl.keep, by rcases kind_cases k1 k2 with hk | hk | hk | hk | hk | hk | hk | hk | hk | hk | hk | hk <;> first | (rw [kept_k hk]; rfl) | (exfalso; simp [hk] at h9)⟩
  ·
    refine xp_seq rfl ?_
    refine xp_region rfl (by kernel_rfl) ?_
    refine re_rd rfl rfl rfl rfl (rd_bin rfl rfl rfl rfl) ?_
    refine re_rd rfl rfl rfl rfl (rd_assign rfl rfl) ?_
    refine re_end rfl ?_
    refine xp_cond rfl rfl (fun h23 => ?_) (fun h23 => ?_)
    ·
      refine xp_region rfl (by kernel_rfl) ?_
      refine re_rd rfl rfl rfl rfl (rd_fieldAddr rfl rfl (fieldAddr_at Tryz.underlying50 rfl (by kernel_rfl))) ?_
      refine re_rd rfl rfl rfl rfl (rd_load rfl rfl (load1_of (by kernel_rfl) (hl.get 2 rfl) rfl)) ?_
      refine re_rd rfl rfl rfl rfl (rd_fieldAddr rfl rfl (fieldAddr_at Tryz.underlying50 rfl (by kernel_rfl))) ?_
      refine re_storeL hl 0 rfl rfl rfl rfl rfl rfl rfl (by kernel_rfl) rfl ?_; intro S1 hl
      refine re_end rfl ?_
      refine xp_seq rfl ?_
      refine xp_region rfl (by kernel_rfl) ?_
      refine re_rd rfl rfl rfl rfl (rd_load rfl rfl (loadN_of (z := 17) (by kernel_rfl) (by kernel_rfl) (hl.get 0 rfl) rfl)) ?_
      refine re_storeL hl 1 rfl rfl rfl rfl rfl rfl rfl (by kernel_rfl) rfl ?_; intro S1 hl
      refine re_end rfl ?_
      refine xp_ret rfl ?_
      refine done_ret (ress_cell rfl (loadN_of (z := 17) (by kernel_rfl) (by kernel_rfl) (hl.get 1 rfl) rfl) rfl) ⟨hl.keep, by rcases kind_cases k1 k2 with hk | hk | hk | hk | hk | hk | hk | hk | hk | hk | hk | hk <;> first | (rw [kept_k hk]; rfl) | (exfalso; simp [hk] at h23 h9)⟩
    ·
      refine xp_seq rfl ?_
      refine xp_region rfl (by kernel_rfl) ?_
      refine re_rd rfl rfl rfl rfl (rd_bin rfl rfl rfl rfl) ?_
      refine re_rd rfl rfl rfl rfl (rd_assign rfl rfl) ?_
      refine re_end rfl ?_
      refine xp_cond rfl rfl (fun h28 => ?_) (fun h28 => ?_)
      ·
        refine xp_draw (idx := [0, 1, 2, 3, 4, 5, 6, 7, 8, 9, 10, 11, 12, 13, 14, 15, 16, 17, 18, 19, 20, 21, 22, 23]) rfl (by kernel_rfl) (by kernel_rfl) ?_
        refine rp_rd rfl rfl rfl rfl rfl (rd_fieldAddr rfl rfl (fieldAddr_at Tryz.underlying50 rfl (by kernel_rfl))) ?_
        refine rp_lk rfl rfl rfl rfl rfl (rd_load rfl rfl (load1_of (by kernel_rfl) (hl.get 2 rfl) rfl)) ?_
        refine rp_rd rfl rfl rfl rfl rfl (rd_fieldAddr rfl rfl (fieldAddr_at Tryz.underlying50 rfl (by kernel_rfl))) ?_
        refine rp_lk rfl rfl rfl rfl rfl (rd_load rfl rfl (load1_of (by kernel_rfl) (hl.get 2 rfl) rfl)) ?_
        refine rp_rd rfl rfl rfl rfl rfl (rd_fieldAddr rfl rfl (fieldAddr_at Tryz.underlying50 rfl (by kernel_rfl))) ?_
        refine rp_lk rfl rfl rfl rfl rfl (rd_load rfl rfl (load1_of (by kernel_rfl) (hl.get 2 rfl) rfl)) ?_
        refine rp_rd rfl rfl rfl rfl rfl (rd_fieldAddr rfl rfl (fieldAddr_at Tryz.underlying50 rfl (by kernel_rfl))) ?_
        refine rp_lk rfl rfl rfl rfl rfl (rd_load rfl rfl (load1_of (by kernel_rfl) (hl.get 2 rfl) rfl)) ?_
        refine rp_rd rfl rfl rfl rfl rfl (rd_fieldAddr rfl rfl (fieldAddr_at Tryz.underlying50 rfl (by kernel_rfl))) ?_
        refine rp_lk rfl rfl rfl rfl rfl (rd_load rfl rfl (load1_of (by kernel_rfl) (hl.get 2 rfl) rfl)) ?_
        refine rp_rd rfl rfl rfl rfl rfl (rd_fieldAddr rfl rfl (fieldAddr_at Tryz.underlying50 rfl (by kernel_rfl))) ?_
        refine rp_lk rfl rfl rfl rfl rfl (rd_load rfl rfl (load1_of (by kernel_rfl) (hl.get 2 rfl) rfl)) ?_
        refine rp_rd rfl rfl rfl rfl rfl (rd_fieldAddr rfl rfl (fieldAddr_at Tryz.underlying50 rfl (by kernel_rfl))) ?_
        refine rp_storeL hl 0 rfl rfl rfl rfl rfl rfl rfl (by kernel_rfl) rfl ?_; intro S1 hl; refine ⟨stays_of (⟨(by first | exact stays_load (X := True) rfl rfl (load1_of (by kernel_rfl) (hl.get 2 rfl) rfl) (same_atom (atom_int _ _)) rfl trivial | exact stays_load (X := True) rfl rfl (load1_of (by kernel_rfl) (hl.get 2 rfl) rfl) (same_atom (atom_bool _)) rfl trivial | exact stays_load (X := True) rfl rfl (loadN_of (z := 4) (by kernel_rfl) (by kernel_rfl) (hl.get 2 rfl) rfl) (same_agg rfl (atoms_cons (atom_int _ _) (atoms_cons (atom_int _ _) (atoms_cons (atom_int _ _) (atoms_cons (atom_int _ _) atoms_nil))))) rfl trivial), (by first | exact stays_load (X := True) rfl rfl (load1_of (by kernel_rfl) (hl.get 2 rfl) rfl) (same_atom (atom_int _ _)) rfl trivial | exact stays_load (X := True) rfl rfl (load1_of (by kernel_rfl) (hl.get 2 rfl) rfl) (same_atom (atom_bool _)) rfl trivial | exact stays_load (X := True) rfl rfl (loadN_of (z := 4) (by kernel_rfl) (by kernel_rfl) (hl.get 2 rfl) rfl) (same_agg rfl (atoms_cons (atom_int _ _) (atoms_cons (atom_int _ _) (atoms_cons (atom_int _ _) (atoms_cons (atom_int _ _) atoms_nil))))) rfl trivial), (by first | exact stays_load (X := True) rfl rfl (load1_of (by kernel_rfl) (hl.get 2 rfl) rfl) (same_atom (atom_int _ _)) rfl trivial | exact stays_load (X := True) rfl rfl (load1_of (by kernel_rfl) (hl.get 2 rfl) rfl) (same_atom (atom_bool _)) rfl trivial | exact stays_load (X := True) rfl rfl (loadN_of (z := 4) (by kernel_rfl) (by kernel_rfl) (hl.get 2 rfl) rfl) (same_agg rfl (atoms_cons (atom_int _ _) (atoms_cons (atom_int _ _) (atoms_cons (atom_int _ _) (atoms_cons (atom_int _ _) atoms_nil))))) rfl trivial), (by first | exact stays_load (X := True) rfl rfl (load1_of (by kernel_rfl) (hl.get 2 rfl) rfl) (same_atom (atom_int _ _)) rfl trivial | exact stays_load (X := True) rfl rfl (load1_of (by kernel_rfl) (hl.get 2 rfl) rfl) (same_atom (atom_bool _)) rfl trivial | exact stays_load (X := True) rfl rfl (loadN_of (z := 4) (by kernel_rfl) (by kernel_rfl) (hl.get 2 rfl) rfl) (same_agg rfl (atoms_cons (atom_int _ _) (atoms_cons (atom_int _ _) (atoms_cons (atom_int _ _) (atoms_cons (atom_int _ _) atoms_nil))))) rfl trivial), (by first | exact stays_load (X := True) rfl rfl (load1_of (by kernel_rfl) (hl.get 2 rfl) rfl) (same_atom (atom_int _ _)) rfl trivial | exact stays_load (X := True) rfl rfl (load1_of (by kernel_rfl) (hl.get 2 rfl) rfl) (same_atom (atom_bool _)) rfl trivial | exact stays_load (X := True) rfl rfl (loadN_of (z := 4) (by kernel_rfl) (by kernel_rfl) (hl.get 2 rfl) rfl) (same_agg rfl (atoms_cons (atom_int _ _) (atoms_cons (atom_int _ _) (atoms_cons (atom_int _ _) (atoms_cons (atom_int _ _) atoms_nil))))) rfl trivial), (by first | exact stays_load (X := True) rfl rfl (load1_of (by kernel_rfl) (hl.get 2 rfl) rfl) (same_atom (atom_int _ _)) rfl trivial | exact stays_load (X := True) rfl rfl (load1_of (by kernel_rfl) (hl.get 2 rfl) rfl) (same_atom (atom_bool _)) rfl trivial | exact stays_load (X := True) rfl rfl (loadN_of (z := 4) (by kernel_rfl) (by kernel_rfl) (hl.get 2 rfl) rfl) (same_agg rfl (atoms_cons (atom_int _ _) (atoms_cons (atom_int _ _) (atoms_cons (atom_int _ _) (atoms_cons (atom_int _ _) atoms_nil))))) rfl trivial), trivial⟩), ?_⟩
        refine rp_rd rfl rfl rfl rfl rfl (rd_fieldAddr rfl rfl (fieldAddr_at Tryz.underlying50 rfl (by kernel_rfl))) ?_
        refine rp_storeL hl 0 rfl rfl rfl rfl rfl rfl rfl (by kernel_rfl) rfl ?_; intro S1 hl; refine ⟨stays_of (allE_left (⟨(by first | exact stays_load (X := True) rfl rfl (load1_of (by kernel_rfl) (hl.get 2 rfl) rfl) (same_atom (atom_int _ _)) rfl trivial | exact stays_load (X := True) rfl rfl (load1_of (by kernel_rfl) (hl.get 2 rfl) rfl) (same_atom (atom_bool _)) rfl trivial | exact stays_load (X := True) rfl rfl (loadN_of (z := 4) (by kernel_rfl) (by kernel_rfl) (hl.get 2 rfl) rfl) (same_agg rfl (atoms_cons (atom_int _ _) (atoms_cons (atom_int _ _) (atoms_cons (atom_int _ _) (atoms_cons (atom_int _ _) atoms_nil))))) rfl trivial), (by first | exact stays_load (X := True) rfl rfl (load1_of (by kernel_rfl) (hl.get 2 rfl) rfl) (same_atom (atom_int _ _)) rfl trivial | exact stays_load (X := True) rfl rfl (load1_of (by kernel_rfl) (hl.get 2 rfl) rfl) (same_atom (atom_bool _)) rfl trivial | exact stays_load (X := True) rfl rfl (loadN_of (z := 4) (by kernel_rfl) (by kernel_rfl) (hl.get 2 rfl) rfl) (same_agg rfl (atoms_cons (atom_int _ _) (atoms_cons (atom_int _ _) (atoms_cons (atom_int _ _) (atoms_cons (atom_int _ _) atoms_nil))))) rfl trivial), (by first | exact stays_load (X := True) rfl rfl (load1_of (by kernel_rfl) (hl.get 2 rfl) rfl) (same_atom (atom_int _ _)) rfl trivial | exact stays_load (X := True) rfl rfl (load1_of (by kernel_rfl) (hl.get 2 rfl) rfl) (same_atom (atom_bool _)) rfl trivial | exact stays_load (X := True) rfl rfl (loadN_of (z := 4) (by kernel_rfl) (by kernel_rfl) (hl.get 2 rfl) rfl) (same_agg rfl (atoms_cons (atom_int _ _) (atoms_cons (atom_int _ _) (atoms_cons (atom_int _ _) (atoms_cons (atom_int _ _) atoms_nil))))) rfl trivial), (by first | exact stays_load (X := True) rfl rfl (load1_of (by kernel_rfl) (hl.get 2 rfl) rfl) (same_atom (atom_int _ _)) rfl trivial | exact stays_load (X := True) rfl rfl (load1_of (by kernel_rfl) (hl.get 2 rfl) rfl) (same_atom (atom_bool _)) rfl trivial | exact stays_load (X := True) rfl rfl (loadN_of (z := 4) (by kernel_rfl) (by kernel_rfl) (hl.get 2 rfl) rfl) (same_agg rfl (atoms_cons (atom_int _ _) (atoms_cons (atom_int _ _) (atoms_cons (atom_int _ _) (atoms_cons (atom_int _ _) atoms_nil))))) rfl trivial), (by first | exact stays_load (X := True) rfl rfl (load1_of (by kernel_rfl) (hl.get 2 rfl) rfl) (same_atom (atom_int _ _)) rfl trivial | exact stays_load (X := True) rfl rfl (load1_of (by kernel_rfl) (hl.get 2 rfl) rfl) (same_atom (atom_bool _)) rfl trivial | exact stays_load (X := True) rfl rfl (loadN_of (z := 4) (by kernel_rfl) (by kernel_rfl) (hl.get 2 rfl) rfl) (same_agg rfl (atoms_cons (atom_int _ _) (atoms_cons (atom_int _ _) (atoms_cons (atom_int _ _) (atoms_cons (atom_int _ _) atoms_nil))))) rfl trivial), (by first | exact stays_load (X := True) rfl rfl (load1_of (by kernel_rfl) (hl.get 2 rfl) rfl) (same_atom (atom_int _ _)) rfl trivial | exact stays_load (X := True) rfl rfl (load1_of (by kernel_rfl) (hl.get 2 rfl) rfl) (same_atom (atom_bool _)) rfl trivial | exact stays_load (X := True) rfl rfl (loadN_of (z := 4) (by kernel_rfl) (by kernel_rfl) (hl.get 2 rfl) rfl) (same_agg rfl (atoms_cons (atom_int _ _) (atoms_cons (atom_int _ _) (atoms_cons (atom_int _ _) (atoms_cons (atom_int _ _) atoms_nil))))) rfl trivial), trivial⟩)), ?_⟩
        refine rp_rd rfl rfl rfl rfl rfl (rd_fieldAddr rfl rfl (fieldAddr_at Tryz.underlying50 rfl (by kernel_rfl))) ?_
        refine rp_storeL hl 0 rfl rfl rfl rfl rfl rfl rfl (by kernel_rfl) rfl ?_; intro S1 hl; refine ⟨stays_of (allE_left (allE_left (⟨(by first | exact stays_load (X := True) rfl rfl (load1_of (by kernel_rfl) (hl.get 2 rfl) rfl) (same_atom (atom_int _ _)) rfl trivial | exact stays_load (X := True) rfl rfl (load1_of (by kernel_rfl) (hl.get 2 rfl) rfl) (same_atom (atom_bool _)) rfl trivial | exact stays_load (X := True) rfl rfl (loadN_of (z := 4) (by kernel_rfl) (by kernel_rfl) (hl.get 2 rfl) rfl) (same_agg rfl (atoms_cons (atom_int _ _) (atoms_cons (atom_int _ _) (atoms_cons (atom_int _ _) (atoms_cons (atom_int _ _) atoms_nil))))) rfl trivial), (by first | exact stays_load (X := True) rfl rfl (load1_of (by kernel_rfl) (hl.get 2 rfl) rfl) (same_atom (atom_int _ _)) rfl trivial | exact stays_load (X := True) rfl rfl (load1_of (by kernel_rfl) (hl.get 2 rfl) rfl) (same_atom (atom_bool _)) rfl trivial | exact stays_load (X := True) rfl rfl (loadN_of (z := 4) (by kernel_rfl) (by kernel_rfl) (hl.get 2 rfl) rfl) (same_agg rfl (atoms_cons (atom_int _ _) (atoms_cons (atom_int _ _) (atoms_cons (atom_int _ _) (atoms_cons (atom_int _ _) atoms_nil))))) rfl trivial), (by first | exact stays_load (X := True) rfl rfl (load1_of (by kernel_rfl) (hl.get 2 rfl) rfl) (same_atom (atom_int _ _)) rfl trivial | exact stays_load (X := True) rfl rfl (load1_of (by kernel_rfl) (hl.get 2 rfl) rfl) (same_atom (atom_bool _)) rfl trivial | exact stays_load (X := True) rfl rfl (loadN_of (z := 4) (by kernel_rfl) (by kernel_rfl) (hl.get 2 rfl) rfl) (same_agg rfl (atoms_cons (atom_int _ _) (atoms_cons (atom_int _ _) (atoms_cons (atom_int _ _) (atoms_cons (atom_int _ _) atoms_nil))))) rfl trivial), (by first | exact stays_load (X := True) rfl rfl (load1_of (by kernel_rfl) (hl.get 2 rfl) rfl) (same_atom (atom_int _ _)) rfl trivial | exact stays_load (X := True) rfl rfl (load1_of (by kernel_rfl) (hl.get 2 rfl) rfl) (same_atom (atom_bool _)) rfl trivial | exact stays_load (X := True) rfl rfl (loadN_of (z := 4) (by kernel_rfl) (by kernel_rfl) (hl.get 2 rfl) rfl) (same_agg rfl (atoms_cons (atom_int _ _) (atoms_cons (atom_int _ _) (atoms_cons (atom_int _ _) (atoms_cons (atom_int _ _) atoms_nil))))) rfl trivial), (by first | exact stays_load (X := True) rfl rfl (load1_of (by kernel_rfl) (hl.get 2 rfl) rfl) (same_atom (atom_int _ _)) rfl trivial | exact stays_load (X := True) rfl rfl (load1_of (by kernel_rfl) (hl.get 2 rfl) rfl) (same_atom (atom_bool _)) rfl trivial | exact stays_load (X := True) rfl rfl (loadN_of (z := 4) (by kernel_rfl) (by kernel_rfl) (hl.get 2 rfl) rfl) (same_agg rfl (atoms_cons (atom_int _ _) (atoms_cons (atom_int _ _) (atoms_cons (atom_int _ _) (atoms_cons (atom_int _ _) atoms_nil))))) rfl trivial), (by first | exact stays_load (X := True) rfl rfl (load1_of (by kernel_rfl) (hl.get 2 rfl) rfl) (same_atom (atom_int _ _)) rfl trivial | exact stays_load (X := True) rfl rfl (load1_of (by kernel_rfl) (hl.get 2 rfl) rfl) (same_atom (atom_bool _)) rfl trivial | exact stays_load (X := True) rfl rfl (loadN_of (z := 4) (by kernel_rfl) (by kernel_rfl) (hl.get 2 rfl) rfl) (same_agg rfl (atoms_cons (atom_int _ _) (atoms_cons (atom_int _ _) (atoms_cons (atom_int _ _) (atoms_cons (atom_int _ _) atoms_nil))))) rfl trivial), trivial⟩))), ?_⟩
        refine rp_rd rfl rfl rfl rfl rfl (rd_fieldAddr rfl rfl (fieldAddr_at Tryz.underlying50 rfl (by kernel_rfl))) ?_
        refine rp_storeL hl 0 rfl rfl rfl rfl rfl rfl rfl (by kernel_rfl) rfl ?_; intro S1 hl; refine ⟨stays_of (allE_left (allE_left (allE_left (⟨(by first | exact stays_load (X := True) rfl rfl (load1_of (by kernel_rfl) (hl.get 2 rfl) rfl) (same_atom (atom_int _ _)) rfl trivial | exact stays_load (X := True) rfl rfl (load1_of (by kernel_rfl) (hl.get 2 rfl) rfl) (same_atom (atom_bool _)) rfl trivial | exact stays_load (X := True) rfl rfl (loadN_of (z := 4) (by kernel_rfl) (by kernel_rfl) (hl.get 2 rfl) rfl) (same_agg rfl (atoms_cons (atom_int _ _) (atoms_cons (atom_int _ _) (atoms_cons (atom_int _ _) (atoms_cons (atom_int _ _) atoms_nil))))) rfl trivial), (by first | exact stays_load (X := True) rfl rfl (load1_of (by kernel_rfl) (hl.get 2 rfl) rfl) (same_atom (atom_int _ _)) rfl trivial | exact stays_load (X := True) rfl rfl (load1_of (by kernel_rfl) (hl.get 2 rfl) rfl) (same_atom (atom_bool _)) rfl trivial | exact stays_load (X := True) rfl rfl (loadN_of (z := 4) (by kernel_rfl) (by kernel_rfl) (hl.get 2 rfl) rfl) (same_agg rfl (atoms_cons (atom_int _ _) (atoms_cons (atom_int _ _) (atoms_cons (atom_int _ _) (atoms_cons (atom_int _ _) atoms_nil))))) rfl trivial), (by first | exact stays_load (X := True) rfl rfl (load1_of (by kernel_rfl) (hl.get 2 rfl) rfl) (same_atom (atom_int _ _)) rfl trivial | exact stays_load (X := True) rfl rfl (load1_of (by kernel_rfl) (hl.get 2 rfl) rfl) (same_atom (atom_bool _)) rfl trivial | exact stays_load (X := True) rfl rfl (loadN_of (z := 4) (by kernel_rfl) (by kernel_rfl) (hl.get 2 rfl) rfl) (same_agg rfl (atoms_cons (atom_int _ _) (atoms_cons (atom_int _ _) (atoms_cons (atom_int _ _) (atoms_cons (atom_int _ _) atoms_nil))))) rfl trivial), (by first | exact stays_load (X := True) rfl rfl (load1_of (by kernel_rfl) (hl.get 2 rfl) rfl) (same_atom (atom_int _ _)) rfl trivial | exact stays_load (X := True) rfl rfl (load1_of (by kernel_rfl) (hl.get 2 rfl) rfl) (same_atom (atom_bool _)) rfl trivial | exact stays_load (X := True) rfl rfl (loadN_of (z := 4) (by kernel_rfl) (by kernel_rfl) (hl.get 2 rfl) rfl) (same_agg rfl (atoms_cons (atom_int _ _) (atoms_cons (atom_int _ _) (atoms_cons (atom_int _ _) (atoms_cons (atom_int _ _) atoms_nil))))) rfl trivial), (by first | exact stays_load (X := True) rfl rfl (load1_of (by kernel_rfl) (hl.get 2 rfl) rfl) (same_atom (atom_int _ _)) rfl trivial | exact stays_load (X := True) rfl rfl (load1_of (by kernel_rfl) (hl.get 2 rfl) rfl) (same_atom (atom_bool _)) rfl trivial | exact stays_load (X := True) rfl rfl (loadN_of (z := 4) (by kernel_rfl) (by kernel_rfl) (hl.get 2 rfl) rfl) (same_agg rfl (atoms_cons (atom_int _ _) (atoms_cons (atom_int _ _) (atoms_cons (atom_int _ _) (atoms_cons (atom_int _ _) atoms_nil))))) rfl trivial), (by first | exact stays_load (X := True) rfl rfl (load1_of (by kernel_rfl) (hl.get 2 rfl) rfl) (same_atom (atom_int _ _)) rfl trivial | exact stays_load (X := True) rfl rfl (load1_of (by kernel_rfl) (hl.get 2 rfl) rfl) (same_atom (atom_bool _)) rfl trivial | exact stays_load (X := True) rfl rfl (loadN_of (z := 4) (by kernel_rfl) (by kernel_rfl) (hl.get 2 rfl) rfl) (same_agg rfl (atoms_cons (atom_int _ _) (atoms_cons (atom_int _ _) (atoms_cons (atom_int _ _) (atoms_cons (atom_int _ _) atoms_nil))))) rfl trivial), trivial⟩)))), ?_⟩
        refine rp_rd rfl rfl rfl rfl rfl (rd_fieldAddr rfl rfl (fieldAddr_at Tryz.underlying50 rfl (by kernel_rfl))) ?_
        refine rp_storeL hl 0 rfl rfl rfl rfl rfl rfl rfl (by kernel_rfl) rfl ?_; intro S1 hl; refine ⟨stays_of (allE_left (allE_left (allE_left (allE_left (⟨(by first | exact stays_load (X := True) rfl rfl (load1_of (by kernel_rfl) (hl.get 2 rfl) rfl) (same_atom (atom_int _ _)) rfl trivial | exact stays_load (X := True) rfl rfl (load1_of (by kernel_rfl) (hl.get 2 rfl) rfl) (same_atom (atom_bool _)) rfl trivial | exact stays_load (X := True) rfl rfl (loadN_of (z := 4) (by kernel_rfl) (by kernel_rfl) (hl.get 2 rfl) rfl) (same_agg rfl (atoms_cons (atom_int _ _) (atoms_cons (atom_int _ _) (atoms_cons (atom_int _ _) (atoms_cons (atom_int _ _) atoms_nil))))) rfl trivial), (by first | exact stays_load (X := True) rfl rfl (load1_of (by kernel_rfl) (hl.get 2 rfl) rfl) (same_atom (atom_int _ _)) rfl trivial | exact stays_load (X := True) rfl rfl (load1_of (by kernel_rfl) (hl.get 2 rfl) rfl) (same_atom (atom_bool _)) rfl trivial | exact stays_load (X := True) rfl rfl (loadN_of (z := 4) (by kernel_rfl) (by kernel_rfl) (hl.get 2 rfl) rfl) (same_agg rfl (atoms_cons (atom_int _ _) (atoms_cons (atom_int _ _) (atoms_cons (atom_int _ _) (atoms_cons (atom_int _ _) atoms_nil))))) rfl trivial), (by first | exact stays_load (X := True) rfl rfl (load1_of (by kernel_rfl) (hl.get 2 rfl) rfl) (same_atom (atom_int _ _)) rfl trivial | exact stays_load (X := True) rfl rfl (load1_of (by kernel_rfl) (hl.get 2 rfl) rfl) (same_atom (atom_bool _)) rfl trivial | exact stays_load (X := True) rfl rfl (loadN_of (z := 4) (by kernel_rfl) (by kernel_rfl) (hl.get 2 rfl) rfl) (same_agg rfl (atoms_cons (atom_int _ _) (atoms_cons (atom_int _ _) (atoms_cons (atom_int _ _) (atoms_cons (atom_int _ _) atoms_nil))))) rfl trivial), (by first | exact stays_load (X := True) rfl rfl (load1_of (by kernel_rfl) (hl.get 2 rfl) rfl) (same_atom (atom_int _ _)) rfl trivial | exact stays_load (X := True) rfl rfl (load1_of (by kernel_rfl) (hl.get 2 rfl) rfl) (same_atom (atom_bool _)) rfl trivial | exact stays_load (X := True) rfl rfl (loadN_of (z := 4) (by kernel_rfl) (by kernel_rfl) (hl.get 2 rfl) rfl) (same_agg rfl (atoms_cons (atom_int _ _) (atoms_cons (atom_int _ _) (atoms_cons (atom_int _ _) (atoms_cons (atom_int _ _) atoms_nil))))) rfl trivial), (by first | exact stays_load (X := True) rfl rfl (load1_of (by kernel_rfl) (hl.get 2 rfl) rfl) (same_atom (atom_int _ _)) rfl trivial | exact stays_load (X := True) rfl rfl (load1_of (by kernel_rfl) (hl.get 2 rfl) rfl) (same_atom (atom_bool _)) rfl trivial | exact stays_load (X := True) rfl rfl (loadN_of (z := 4) (by kernel_rfl) (by kernel_rfl) (hl.get 2 rfl) rfl) (same_agg rfl (atoms_cons (atom_int _ _) (atoms_cons (atom_int _ _) (atoms_cons (atom_int _ _) (atoms_cons (atom_int _ _) atoms_nil))))) rfl trivial), (by first | exact stays_load (X := True) rfl rfl (load1_of (by kernel_rfl) (hl.get 2 rfl) rfl) (same_atom (atom_int _ _)) rfl trivial | exact stays_load (X := True) rfl rfl (load1_of (by kernel_rfl) (hl.get 2 rfl) rfl) (same_atom (atom_bool _)) rfl trivial | exact stays_load (X := True) rfl rfl (loadN_of (z := 4) (by kernel_rfl) (by kernel_rfl) (hl.get 2 rfl) rfl) (same_agg rfl (atoms_cons (atom_int _ _) (atoms_cons (atom_int _ _) (atoms_cons (atom_int _ _) (atoms_cons (atom_int _ _) atoms_nil))))) rfl trivial), trivial⟩))))), ?_⟩
        refine rp_rd rfl rfl rfl rfl rfl (rd_fieldAddr rfl rfl (fieldAddr_at Tryz.underlying50 rfl (by kernel_rfl))) ?_
        refine rp_storeL hl 0 rfl rfl rfl rfl rfl rfl rfl (by kernel_rfl) rfl ?_; intro S1 hl; refine ⟨stays_of (allE_left (allE_left (allE_left (allE_left (allE_left (⟨(by first | exact stays_load (X := True) rfl rfl (load1_of (by kernel_rfl) (hl.get 2 rfl) rfl) (same_atom (atom_int _ _)) rfl trivial | exact stays_load (X := True) rfl rfl (load1_of (by kernel_rfl) (hl.get 2 rfl) rfl) (same_atom (atom_bool _)) rfl trivial | exact stays_load (X := True) rfl rfl (loadN_of (z := 4) (by kernel_rfl) (by kernel_rfl) (hl.get 2 rfl) rfl) (same_agg rfl (atoms_cons (atom_int _ _) (atoms_cons (atom_int _ _) (atoms_cons (atom_int _ _) (atoms_cons (atom_int _ _) atoms_nil))))) rfl trivial), (by first | exact stays_load (X := True) rfl rfl (load1_of (by kernel_rfl) (hl.get 2 rfl) rfl) (same_atom (atom_int _ _)) rfl trivial | exact stays_load (X := True) rfl rfl (load1_of (by kernel_rfl) (hl.get 2 rfl) rfl) (same_atom (atom_bool _)) rfl trivial | exact stays_load (X := True) rfl rfl (loadN_of (z := 4) (by kernel_rfl) (by kernel_rfl) (hl.get 2 rfl) rfl) (same_agg rfl (atoms_cons (atom_int _ _) (atoms_cons (atom_int _ _) (atoms_cons (atom_int _ _) (atoms_cons (atom_int _ _) atoms_nil))))) rfl trivial), (by first | exact stays_load (X := True) rfl rfl (load1_of (by kernel_rfl) (hl.get 2 rfl) rfl) (same_atom (atom_int _ _)) rfl trivial | exact stays_load (X := True) rfl rfl (load1_of (by kernel_rfl) (hl.get 2 rfl) rfl) (same_atom (atom_bool _)) rfl trivial | exact stays_load (X := True) rfl rfl (loadN_of (z := 4) (by kernel_rfl) (by kernel_rfl) (hl.get 2 rfl) rfl) (same_agg rfl (atoms_cons (atom_int _ _) (atoms_cons (atom_int _ _) (atoms_cons (atom_int _ _) (atoms_cons (atom_int _ _) atoms_nil))))) rfl trivial), (by first | exact stays_load (X := True) rfl rfl (load1_of (by kernel_rfl) (hl.get 2 rfl) rfl) (same_atom (atom_int _ _)) rfl trivial | exact stays_load (X := True) rfl rfl (load1_of (by kernel_rfl) (hl.get 2 rfl) rfl) (same_atom (atom_bool _)) rfl trivial | exact stays_load (X := True) rfl rfl (loadN_of (z := 4) (by kernel_rfl) (by kernel_rfl) (hl.get 2 rfl) rfl) (same_agg rfl (atoms_cons (atom_int _ _) (atoms_cons (atom_int _ _) (atoms_cons (atom_int _ _) (atoms_cons (atom_int _ _) atoms_nil))))) rfl trivial), (by first | exact stays_load (X := True) rfl rfl (load1_of (by kernel_rfl) (hl.get 2 rfl) rfl) (same_atom (atom_int _ _)) rfl trivial | exact stays_load (X := True) rfl rfl (load1_of (by kernel_rfl) (hl.get 2 rfl) rfl) (same_atom (atom_bool _)) rfl trivial | exact stays_load (X := True) rfl rfl (loadN_of (z := 4) (by kernel_rfl) (by kernel_rfl) (hl.get 2 rfl) rfl) (same_agg rfl (atoms_cons (atom_int _ _) (atoms_cons (atom_int _ _) (atoms_cons (atom_int _ _) (atoms_cons (atom_int _ _) atoms_nil))))) rfl trivial), (by first | exact stays_load (X := True) rfl rfl (load1_of (by kernel_rfl) (hl.get 2 rfl) rfl) (same_atom (atom_int _ _)) rfl trivial | exact stays_load (X := True) rfl rfl (load1_of (by kernel_rfl) (hl.get 2 rfl) rfl) (same_atom (atom_bool _)) rfl trivial | exact stays_load (X := True) rfl rfl (loadN_of (z := 4) (by kernel_rfl) (by kernel_rfl) (hl.get 2 rfl) rfl) (same_agg rfl (atoms_cons (atom_int _ _) (atoms_cons (atom_int _ _) (atoms_cons (atom_int _ _) (atoms_cons (atom_int _ _) atoms_nil))))) rfl trivial), trivial⟩)))))), ?_⟩
        refine rp_end rfl ?_
        refine xp_seq rfl ?_
        refine xp_region rfl (by kernel_rfl) ?_
        refine re_rd rfl rfl rfl rfl (rd_load rfl rfl (loadN_of (z := 17) (by kernel_rfl) (by kernel_rfl) (hl.get 0 rfl) rfl)) ?_
        refine re_storeL hl 1 rfl rfl rfl rfl rfl rfl rfl (by kernel_rfl) rfl ?_; intro S1 hl
        refine re_end rfl ?_
        refine xp_ret rfl ?_
        refine done_ret (ress_cell rfl (loadN_of (z := 17) (by kernel_rfl) (by kernel_rfl) (hl.get 1 rfl) rfl) rfl) ⟨hl.keep, by rcases kind_cases k1 k2 with hk | hk | hk | hk | hk | hk | hk | hk | hk | hk | hk | hk <;> first | (rw [kept_k hk]; rfl) | (exfalso; simp [hk] at h28 h23 h9)⟩
      ·
        refine xp_seq rfl ?_
        refine xp_region rfl (by kernel_rfl) ?_
        refine re_rd rfl rfl rfl rfl (rd_bin rfl rfl rfl rfl) ?_
        refine re_rd rfl rfl rfl rfl (rd_assign rfl rfl) ?_
        refine re_end rfl ?_
        refine xp_cond rfl rfl (fun h48 => ?_) (fun h48 => ?_)
        ·
          refine xp_draw (idx := [0, 1, 2, 3, 4, 5, 6, 7]) rfl (by kernel_rfl) (by kernel_rfl) ?_
          refine rp_rd rfl rfl rfl rfl rfl (rd_fieldAddr rfl rfl (fieldAddr_at Tryz.underlying50 rfl (by kernel_rfl))) ?_
          refine rp_lk rfl rfl rfl rfl rfl (rd_load rfl rfl (loadN_of (z := 4) (by kernel_rfl) (by kernel_rfl) (hl.get 2 rfl) rfl)) ?_
          refine rp_rd rfl rfl rfl rfl rfl (rd_fieldAddr rfl rfl (fieldAddr_at Tryz.underlying50 rfl (by kernel_rfl))) ?_
          refine rp_lk rfl rfl rfl rfl rfl (rd_load rfl rfl (load1_of (by kernel_rfl) (hl.get 2 rfl) rfl)) ?_
          refine rp_rd rfl rfl rfl rfl rfl (rd_fieldAddr rfl rfl (fieldAddr_at Tryz.underlying50 rfl (by kernel_rfl))) ?_
          refine rp_storeL hl 0 rfl rfl rfl rfl rfl rfl rfl (by kernel_rfl) rfl ?_; intro S1 hl; refine ⟨stays_of (⟨(by first | exact stays_load (X := True) rfl rfl (load1_of (by kernel_rfl) (hl.get 2 rfl) rfl) (same_atom (atom_int _ _)) rfl trivial | exact stays_load (X := True) rfl rfl (load1_of (by kernel_rfl) (hl.get 2 rfl) rfl) (same_atom (atom_bool _)) rfl trivial | exact stays_load (X := True) rfl rfl (loadN_of (z := 4) (by kernel_rfl) (by kernel_rfl) (hl.get 2 rfl) rfl) (same_agg rfl (atoms_cons (atom_int _ _) (atoms_cons (atom_int _ _) (atoms_cons (atom_int _ _) (atoms_cons (atom_int _ _) atoms_nil))))) rfl trivial), (by first | exact stays_load (X := True) rfl rfl (load1_of (by kernel_rfl) (hl.get 2 rfl) rfl) (same_atom (atom_int _ _)) rfl trivial | exact stays_load (X := True) rfl rfl (load1_of (by kernel_rfl) (hl.get 2 rfl) rfl) (same_atom (atom_bool _)) rfl trivial | exact stays_load (X := True) rfl rfl (loadN_of (z := 4) (by kernel_rfl) (by kernel_rfl) (hl.get 2 rfl) rfl) (same_agg rfl (atoms_cons (atom_int _ _) (atoms_cons (atom_int _ _) (atoms_cons (atom_int _ _) (atoms_cons (atom_int _ _) atoms_nil))))) rfl trivial), trivial⟩), ?_⟩
          refine rp_rd rfl rfl rfl rfl rfl (rd_fieldAddr rfl rfl (fieldAddr_at Tryz.underlying50 rfl (by kernel_rfl))) ?_
          refine rp_storeL hl 0 rfl rfl rfl rfl rfl rfl rfl (by kernel_rfl) rfl ?_; intro S1 hl; refine ⟨stays_of (allE_left (⟨(by first | exact stays_load (X := True) rfl rfl (load1_of (by kernel_rfl) (hl.get 2 rfl) rfl) (same_atom (atom_int _ _)) rfl trivial | exact stays_load (X := True) rfl rfl (load1_of (by kernel_rfl) (hl.get 2 rfl) rfl) (same_atom (atom_bool _)) rfl trivial | exact stays_load (X := True) rfl rfl (loadN_of (z := 4) (by kernel_rfl) (by kernel_rfl) (hl.get 2 rfl) rfl) (same_agg rfl (atoms_cons (atom_int _ _) (atoms_cons (atom_int _ _) (atoms_cons (atom_int _ _) (atoms_cons (atom_int _ _) atoms_nil))))) rfl trivial), (by first | exact stays_load (X := True) rfl rfl (load1_of (by kernel_rfl) (hl.get 2 rfl) rfl) (same_atom (atom_int _ _)) rfl trivial | exact stays_load (X := True) rfl rfl (load1_of (by kernel_rfl) (hl.get 2 rfl) rfl) (same_atom (atom_bool _)) rfl trivial | exact stays_load (X := True) rfl rfl (loadN_of (z := 4) (by kernel_rfl) (by kernel_rfl) (hl.get 2 rfl) rfl) (same_agg rfl (atoms_cons (atom_int _ _) (atoms_cons (atom_int _ _) (atoms_cons (atom_int _ _) (atoms_cons (atom_int _ _) atoms_nil))))) rfl trivial), trivial⟩)), ?_⟩
          refine rp_end rfl ?_
          refine xp_seq rfl ?_
          refine xp_region rfl (by kernel_rfl) ?_
          refine re_rd rfl rfl rfl rfl (rd_load rfl rfl (loadN_of (z := 17) (by kernel_rfl) (by kernel_rfl) (hl.get 0 rfl) rfl)) ?_
          refine re_storeL hl 1 rfl rfl rfl rfl rfl rfl rfl (by kernel_rfl) rfl ?_; intro S1 hl
          refine re_end rfl ?_
          refine xp_ret rfl ?_
          refine done_ret (ress_cell rfl (loadN_of (z := 17) (by kernel_rfl) (by kernel_rfl) (hl.get 1 rfl) rfl) rfl) ⟨hl.keep, by rcases kind_cases k1 k2 with hk | hk | hk | hk | hk | hk | hk | hk | hk | hk | hk | hk <;> first | (rw [kept_k hk]; rfl) | (exfalso; simp [hk] at h48 h28 h23 h9)⟩
        ·
          refine xp_seq rfl ?_
          refine xp_region rfl (by kernel_rfl) ?_
          refine re_rd rfl rfl rfl rfl (rd_bin rfl rfl rfl rfl) ?_
          refine re_rd rfl rfl rfl rfl (rd_assign rfl rfl) ?_
          refine re_end rfl ?_
          refine xp_cond rfl rfl (fun h56 => ?_) (fun h56 => ?_)
          ·
            refine xp_draw (idx := [0, 1, 2, 3, 4, 5, 6, 7]) rfl (by kernel_rfl) (by kernel_rfl) ?_
            refine rp_rd rfl rfl rfl rfl rfl (rd_fieldAddr rfl rfl (fieldAddr_at Tryz.underlying50 rfl (by kernel_rfl))) ?_
            refine rp_lk rfl rfl rfl rfl rfl (rd_load rfl rfl (load1_of (by kernel_rfl) (hl.get 2 rfl) rfl)) ?_
            refine rp_rd rfl rfl rfl rfl rfl (rd_fieldAddr rfl rfl (fieldAddr_at Tryz.underlying50 rfl (by kernel_rfl))) ?_
            refine rp_lk rfl rfl rfl rfl rfl (rd_load rfl rfl (load1_of (by kernel_rfl) (hl.get 2 rfl) rfl)) ?_
            refine rp_rd rfl rfl rfl rfl rfl (rd_fieldAddr rfl rfl (fieldAddr_at Tryz.underlying50 rfl (by kernel_rfl))) ?_
            refine rp_storeL hl 0 rfl rfl rfl rfl rfl rfl rfl (by kernel_rfl) rfl ?_; intro S1 hl; refine ⟨stays_of (⟨(by first | exact stays_load (X := True) rfl rfl (load1_of (by kernel_rfl) (hl.get 2 rfl) rfl) (same_atom (atom_int _ _)) rfl trivial | exact stays_load (X := True) rfl rfl (load1_of (by kernel_rfl) (hl.get 2 rfl) rfl) (same_atom (atom_bool _)) rfl trivial | exact stays_load (X := True) rfl rfl (loadN_of (z := 4) (by kernel_rfl) (by kernel_rfl) (hl.get 2 rfl) rfl) (same_agg rfl (atoms_cons (atom_int _ _) (atoms_cons (atom_int _ _) (atoms_cons (atom_int _ _) (atoms_cons (atom_int _ _) atoms_nil))))) rfl trivial), (by first | exact stays_load (X := True) rfl rfl (load1_of (by kernel_rfl) (hl.get 2 rfl) rfl) (same_atom (atom_int _ _)) rfl trivial | exact stays_load (X := True) rfl rfl (load1_of (by kernel_rfl) (hl.get 2 rfl) rfl) (same_atom (atom_bool _)) rfl trivial | exact stays_load (X := True) rfl rfl (loadN_of (z := 4) (by kernel_rfl) (by kernel_rfl) (hl.get 2 rfl) rfl) (same_agg rfl (atoms_cons (atom_int _ _) (atoms_cons (atom_int _ _) (atoms_cons (atom_int _ _) (atoms_cons (atom_int _ _) atoms_nil))))) rfl trivial), trivial⟩), ?_⟩
            refine rp_rd rfl rfl rfl rfl rfl (rd_fieldAddr rfl rfl (fieldAddr_at Tryz.underlying50 rfl (by kernel_rfl))) ?_
            refine rp_storeL hl 0 rfl rfl rfl rfl rfl rfl rfl (by kernel_rfl) rfl ?_; intro S1 hl; refine ⟨stays_of (allE_left (⟨(by first | exact stays_load (X := True) rfl rfl (load1_of (by kernel_rfl) (hl.get 2 rfl) rfl) (same_atom (atom_int _ _)) rfl trivial | exact stays_load (X := True) rfl rfl (load1_of (by kernel_rfl) (hl.get 2 rfl) rfl) (same_atom (atom_bool _)) rfl trivial | exact stays_load (X := True) rfl rfl (loadN_of (z := 4) (by kernel_rfl) (by kernel_rfl) (hl.get 2 rfl) rfl) (same_agg rfl (atoms_cons (atom_int _ _) (atoms_cons (atom_int _ _) (atoms_cons (atom_int _ _) (atoms_cons (atom_int _ _) atoms_nil))))) rfl trivial), (by first | exact stays_load (X := True) rfl rfl (load1_of (by kernel_rfl) (hl.get 2 rfl) rfl) (same_atom (atom_int _ _)) rfl trivial | exact stays_load (X := True) rfl rfl (load1_of (by kernel_rfl) (hl.get 2 rfl) rfl) (same_atom (atom_bool _)) rfl trivial | exact stays_load (X := True) rfl rfl (loadN_of (z := 4) (by kernel_rfl) (by kernel_rfl) (hl.get 2 rfl) rfl) (same_agg rfl (atoms_cons (atom_int _ _) (atoms_cons (atom_int _ _) (atoms_cons (atom_int _ _) (atoms_cons (atom_int _ _) atoms_nil))))) rfl trivial), trivial⟩)), ?_⟩
            refine rp_end rfl ?_
            refine xp_seq rfl ?_
            refine xp_region rfl (by kernel_rfl) ?_
            refine re_rd rfl rfl rfl rfl (rd_load rfl rfl (loadN_of (z := 17) (by kernel_rfl) (by kernel_rfl) (hl.get 0 rfl) rfl)) ?_
            refine re_storeL hl 1 rfl rfl rfl rfl rfl rfl rfl (by kernel_rfl) rfl ?_; intro S1 hl
            refine re_end rfl ?_
            refine xp_ret rfl ?_
            refine done_ret (ress_cell rfl (loadN_of (z := 17) (by kernel_rfl) (by kernel_rfl) (hl.get 1 rfl) rfl) rfl) ⟨hl.keep, by rcases kind_cases k1 k2 with hk | hk | hk | hk | hk | hk | hk | hk | hk | hk | hk | hk <;> first | (rw [kept_k hk]; rfl) | (exfalso; simp [hk] at h56 h48 h28 h23 h9)⟩
          ·
            refine xp_seq rfl ?_
            refine xp_region rfl (by kernel_rfl) ?_
            refine re_rd rfl rfl rfl rfl (rd_bin rfl rfl rfl rfl) ?_
            refine re_rd rfl rfl rfl rfl (rd_assign rfl rfl) ?_
            refine re_end rfl ?_
            refine xp_cond rfl rfl (fun h64 => ?_) (fun h64 => ?_)
            ·
              refine xp_region rfl (by kernel_rfl) ?_
              refine re_rd rfl rfl rfl rfl (rd_fieldAddr rfl rfl (fieldAddr_at Tryz.underlying50 rfl (by kernel_rfl))) ?_
              refine re_rd rfl rfl rfl rfl (rd_load rfl rfl (loadN_of (z := 2) (by kernel_rfl) (by kernel_rfl) (hl.get 2 rfl) rfl)) ?_
              refine re_rd rfl rfl rfl rfl (rd_fieldAddr rfl rfl (fieldAddr_at Tryz.underlying50 rfl (by kernel_rfl))) ?_
              refine re_storeL hl 0 rfl rfl rfl rfl rfl rfl rfl (by kernel_rfl) rfl ?_; intro S1 hl
              refine re_end rfl ?_
              refine xp_seq rfl ?_
              refine xp_region rfl (by kernel_rfl) ?_
              refine re_rd rfl rfl rfl rfl (rd_load rfl rfl (loadN_of (z := 17) (by kernel_rfl) (by kernel_rfl) (hl.get 0 rfl) rfl)) ?_
              refine re_storeL hl 1 rfl rfl rfl rfl rfl rfl rfl (by kernel_rfl) rfl ?_; intro S1 hl
              refine re_end rfl ?_
              refine xp_ret rfl ?_
              refine done_ret (ress_cell rfl (loadN_of (z := 17) (by kernel_rfl) (by kernel_rfl) (hl.get 1 rfl) rfl) rfl) ⟨hl.keep, by rcases kind_cases k1 k2 with hk | hk | hk | hk | hk | hk | hk | hk | hk | hk | hk | hk <;> first | (rw [kept_k hk]; rfl) | (exfalso; simp [hk] at h64 h56 h48 h28 h23 h9)⟩
            ·
              refine xp_seq rfl ?_
              refine xp_seq rfl ?_
              refine xp_region rfl (by kernel_rfl) ?_
              refine re_rd rfl rfl rfl rfl (rd_bin rfl rfl rfl rfl) ?_
              refine re_rd rfl rfl rfl rfl (rd_assign rfl rfl) ?_
              refine re_end rfl ?_
              refine xp_cond rfl rfl (fun h69 => ?_) (fun h69 => ?_)
              ·
                refine xp_skip rfl ?_
                refine xp_cond_t rfl (congrArg (fun b => some (Value.bool b)) h69) ?_
                refine xp_region rfl (by kernel_rfl) ?_
                refine re_rd rfl rfl rfl rfl (rd_fieldAddr rfl rfl (fieldAddr_at Tryz.underlying50 rfl (by kernel_rfl))) ?_
                refine re_rd rfl rfl rfl rfl (rd_load rfl rfl (load1_of (by kernel_rfl) (hl.get 2 rfl) rfl)) ?_
                refine re_rd rfl rfl rfl rfl (rd_fieldAddr rfl rfl (fieldAddr_at Tryz.underlying50 rfl (by kernel_rfl))) ?_
                refine re_storeL hl 0 rfl rfl rfl rfl rfl rfl rfl (by kernel_rfl) rfl ?_; intro S1 hl
                refine re_end rfl ?_
                refine xp_seq rfl ?_
                refine xp_region rfl (by kernel_rfl) ?_
                refine re_rd rfl rfl rfl rfl (rd_load rfl rfl (loadN_of (z := 17) (by kernel_rfl) (by kernel_rfl) (hl.get 0 rfl) rfl)) ?_
                refine re_storeL hl 1 rfl rfl rfl rfl rfl rfl rfl (by kernel_rfl) rfl ?_; intro S1 hl
                refine re_end rfl ?_
                refine xp_ret rfl ?_
                refine done_ret (ress_cell rfl (loadN_of (z := 17) (by kernel_rfl) (by kernel_rfl) (hl.get 1 rfl) rfl) rfl) ⟨hl.keep, by rcases kind_cases k1 k2 with hk | hk | hk | hk | hk | hk | hk | hk | hk | hk | hk | hk <;> first | (rw [kept_k hk]; rfl) | (exfalso; simp [hk] at h69 h64 h56 h48 h28 h23 h9)⟩
              ·
                refine xp_region rfl (by kernel_rfl) ?_
                refine re_rd rfl rfl rfl rfl (rd_bin rfl rfl rfl rfl) ?_
                refine re_rd rfl rfl rfl rfl (rd_assign rfl rfl) ?_
                refine re_end rfl ?_
                refine xp_cond rfl rfl (fun h69b => ?_) (fun h69b => ?_)
                ·
                  refine xp_region rfl (by kernel_rfl) ?_
                  refine re_rd rfl rfl rfl rfl (rd_fieldAddr rfl rfl (fieldAddr_at Tryz.underlying50 rfl (by kernel_rfl))) ?_
                  refine re_rd rfl rfl rfl rfl (rd_load rfl rfl (load1_of (by kernel_rfl) (hl.get 2 rfl) rfl)) ?_
                  refine re_rd rfl rfl rfl rfl (rd_fieldAddr rfl rfl (fieldAddr_at Tryz.underlying50 rfl (by kernel_rfl))) ?_
                  refine re_storeL hl 0 rfl rfl rfl rfl rfl rfl rfl (by kernel_rfl) rfl ?_; intro S1 hl
                  refine re_end rfl ?_
                  refine xp_seq rfl ?_
                  refine xp_region rfl (by kernel_rfl) ?_
                  refine re_rd rfl rfl rfl rfl (rd_load rfl rfl (loadN_of (z := 17) (by kernel_rfl) (by kernel_rfl) (hl.get 0 rfl) rfl)) ?_
                  refine re_storeL hl 1 rfl rfl rfl rfl rfl rfl rfl (by kernel_rfl) rfl ?_; intro S1 hl
                  refine re_end rfl ?_
                  refine xp_ret rfl ?_
                  refine done_ret (ress_cell rfl (loadN_of (z := 17) (by kernel_rfl) (by kernel_rfl) (hl.get 1 rfl) rfl) rfl) ⟨hl.keep, by rcases kind_cases k1 k2 with hk | hk | hk | hk | hk | hk | hk | hk | hk | hk | hk | hk <;> first | (rw [kept_k hk]; rfl) | (exfalso; simp [hk] at h69b h69 h64 h56 h48 h28 h23 h9)⟩
                ·
                  refine xp_skip rfl ?_
                  refine xp_seq rfl ?_
                  refine xp_region rfl (by kernel_rfl) ?_
                  refine re_rd rfl rfl rfl rfl (rd_load rfl rfl (loadN_of (z := 17) (by kernel_rfl) (by kernel_rfl) (hl.get 0 rfl) rfl)) ?_
                  refine re_storeL hl 1 rfl rfl rfl rfl rfl rfl rfl (by kernel_rfl) rfl ?_; intro S1 hl
                  refine re_end rfl ?_
                  refine xp_ret rfl ?_
                  refine done_ret (ress_cell rfl (loadN_of (z := 17) (by kernel_rfl) (by kernel_rfl) (hl.get 1 rfl) rfl) rfl) ⟨hl.keep, by rcases kind_cases k1 k2 with hk | hk | hk | hk | hk | hk | hk | hk | hk | hk | hk | hk <;> first | (rw [kept_k hk]; rfl) | (exfalso; simp [hk] at h69b h69 h64 h56 h48 h28 h23 h9)⟩

end Go.Proofs.YtgmmomlgklmedaaGreatDoor

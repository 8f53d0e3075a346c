/-
  The reference: mensurations, used fields. The reference: ranges. The reference: sign One. Sources and parts, the plain law. sign.Check. The reference: Check of parts. Ligatures and brackets, the plain law.
-/
import Derived.Test.YtkmhecihkckcmaaGreatDoorSmA
import Derived.Test.YtkmhecihkckcmaaGreatDoorSy1
namespace Go.Proofs.YtkmhecihkckcmaaGreatDoor
open Go.Cm Go
set_option maxRecDepth 100000
variable {S : St}
theorem kind_cases {k : Int} (h1 : 1 ≤ k) (h2 : k ≤ 12) : k = 1 ∨ k = 2 ∨ k = 3 ∨ k = 4 ∨ k = 5 ∨ k = 6 ∨ k = 7 ∨ k = 8 ∨ k = 9 ∨ k = 10 ∨ k = 11 ∨ k = 12 := by omega
theorem ub7 {k : Int} (h1 : 1 ≤ k) (h2 : k ≤ 12) : ub k 7 = (k == 5) := by
 rcases kind_cases h1 h2 with rfl | rfl | rfl | rfl | rfl | rfl | rfl | rfl | rfl | rfl | rfl | rfl <;> rfl
theorem kept_k {s : Sg} {k : Int} (h : s.kind = k) : keptS s (ub s.kind 0) (ub s.kind 1) (ub s.kind 2) (ub s.kind 3) (ub s.kind 4) (ub s.kind 5) (ub s.kind 6) (ub s.kind 7) (ub s.kind 8) (ub s.kind 9) (ub s.kind 10) (ub s.kind 11) = keptS s (ub k 0) (ub k 1) (ub k 2) (ub k 3) (ub k 4) (ub k 5) (ub k 6) (ub k 7) (ub k 8) (ub k 9) (ub k 10) (ub k 11) := by rw [h]
theorem rng_1 {s : Sg} (h : s.kind = 1) : rangedF s (ub s.kind 0) (ub s.kind 1) (ub s.kind 2) (ub s.kind 4) (ub s.kind 10) (ub s.kind 11) = rangedF s true true true false false false := by rw [h]; rfl
theorem rng_2 {s : Sg} (h : s.kind = 2) : rangedF s (ub s.kind 0) (ub s.kind 1) (ub s.kind 2) (ub s.kind 4) (ub s.kind 10) (ub s.kind 11) = rangedF s true false false false false false := by rw [h]; rfl
theorem rng_3 {s : Sg} (h : s.kind = 3) : rangedF s (ub s.kind 0) (ub s.kind 1) (ub s.kind 2) (ub s.kind 4) (ub s.kind 10) (ub s.kind 11) = rangedF s false false false false false false := by rw [h]; rfl
theorem rng_4 {s : Sg} (h : s.kind = 4) : rangedF s (ub s.kind 0) (ub s.kind 1) (ub s.kind 2) (ub s.kind 4) (ub s.kind 10) (ub s.kind 11) = rangedF s false true true true false false := by rw [h]; rfl
theorem rng_5 {s : Sg} (h : s.kind = 5) : rangedF s (ub s.kind 0) (ub s.kind 1) (ub s.kind 2) (ub s.kind 4) (ub s.kind 10) (ub s.kind 11) = rangedF s false false false false false false := by rw [h]; rfl
theorem rng_6 {s : Sg} (h : s.kind = 6) : rangedF s (ub s.kind 0) (ub s.kind 1) (ub s.kind 2) (ub s.kind 4) (ub s.kind 10) (ub s.kind 11) = rangedF s false false false false true false := by rw [h]; rfl
theorem rng_7 {s : Sg} (h : s.kind = 7) : rangedF s (ub s.kind 0) (ub s.kind 1) (ub s.kind 2) (ub s.kind 4) (ub s.kind 10) (ub s.kind 11) = rangedF s false false false false false true := by rw [h]; rfl
theorem rng_8 {s : Sg} (h : s.kind = 8) : rangedF s (ub s.kind 0) (ub s.kind 1) (ub s.kind 2) (ub s.kind 4) (ub s.kind 10) (ub s.kind 11) = rangedF s false false false false false false := by rw [h]; rfl
theorem rng_9 {s : Sg} (h : s.kind = 9) : rangedF s (ub s.kind 0) (ub s.kind 1) (ub s.kind 2) (ub s.kind 4) (ub s.kind 10) (ub s.kind 11) = rangedF s false false false false false false := by rw [h]; rfl
theorem rng_10 {s : Sg} (h : s.kind = 10) : rangedF s (ub s.kind 0) (ub s.kind 1) (ub s.kind 2) (ub s.kind 4) (ub s.kind 10) (ub s.kind 11) = rangedF s false false false false false false := by rw [h]; rfl
theorem rng_11 {s : Sg} (h : s.kind = 11) : rangedF s (ub s.kind 0) (ub s.kind 1) (ub s.kind 2) (ub s.kind 4) (ub s.kind 10) (ub s.kind 11) = rangedF s false false false false false false := by rw [h]; rfl
theorem rng_12 {s : Sg} (h : s.kind = 12) : rangedF s (ub s.kind 0) (ub s.kind 1) (ub s.kind 2) (ub s.kind 4) (ub s.kind 10) (ub s.kind 11) = rangedF s false false false false false false := by rw [h]; rfl
noncomputable def c115 : Code := Tryz.f115.body.getD .skip
theorem spec115 (a b c d : Int) : CC Tryz.prog KK 115 [aggL [.int .i64 a, .int .i64 b, .int .i64 c, .int .i64 d]] S (fun v S' => Keep S S' ∧ v = .int .i64 (mensE a b c d)) := by
 refine cc_enter (c := c115) (n := 32) Tryz.func115 rfl rfl rfl (by kernel_rfl) rfl rfl ?_
 have hl := Hold.start S
 refine xs (by kernel_rfl) ?_; refine re_boxL hl rfl rfl rfl rfl rfl rfl ?_; intro B1 S1 hl; refine rm rfl ?_; refine re_end rfl ?_; refine xs (by kernel_rfl) ?_; refine rr rfl (rd_fieldAddr rfl rfl (fa Tryz.underlying59 az59 rfl)) ?_; refine rr rfl (rl hl 0 rfl rfl (by kernel_rfl) rfl rfl) ?_; refine rr rfl (rd_fieldAddr rfl rfl (fa Tryz.underlying59 az59 rfl)) ?_; refine rr rfl (rl hl 0 rfl rfl (by kernel_rfl) rfl rfl) ?_; refine rr rfl (rd_fieldAddr rfl rfl (fa Tryz.underlying59 az59 rfl)) ?_; refine rr rfl (rl hl 0 rfl rfl (by kernel_rfl) rfl rfl) ?_
 refine rr rfl (rd_fieldAddr rfl rfl (fa Tryz.underlying59 az59 rfl)) ?_; refine rr rfl (rl hl 0 rfl rfl (by kernel_rfl) rfl rfl) ?_; refine re_buildSliceR hl rfl rfl rfl rfl rfl Tryz.underlying31 rfl (c := [Value.int .i64 a, .int .i64 b, .int .i64 c, .int .i64 d]) (by kernel_rfl) ?_; intro B13 S1 hr13 hl; refine rm rfl ?_; refine re_end rfl ?_; refine xp_seq rfl ?_; refine xs (by kernel_rfl) ?_; refine rm rfl ?_; refine re_end rfl ?_; refine xp_block rfl ?_
 -- LOOP
 refine xe_sub (L' := [(4, .int .i64 0), (3, .slice (some ⟨B13, 0, none⟩) 4 4)]) ⟨rfl, rfl, trivial⟩ ?_
 refine xp_loop rfl (fun m Le S' => ∃ i : Nat, i ≤ 4 ∧ m = 4 - i ∧ SubE [(4, .int .i64 (i : Int)), (3, .slice (some ⟨B13, 0, none⟩) 4 4)] Le ∧ (∀ j, j < i → okm (at4 a b c d j) = true) ∧ RowAt S' B13 3 [Value.int .i64 a, .int .i64 b, .int .i64 c, .int .i64 d] ∧ Keep S S') ?_ (m := 4) ⟨0, by omega, rfl, ⟨rfl, rfl, trivial⟩, fun j hj => by omega, hr13, hl.keep⟩
 clear hr13 hl; rintro m Le S' ⟨i, hi, rfl, hsub, hok, hr, hk⟩; refine xe_sub hsub ?_
 refine xp_seq rfl ?_; refine xs (by kernel_rfl) ?_; iterate 2 refine rm rfl ?_
 refine rr rfl (rd_len rfl rfl (len_slice Tryz.underlying31)) ?_; refine rr rfl (rd_bin rfl rfl rfl rfl) ?_; refine re_end rfl ?_; refine xp_cond rfl rfl (fun h17 => ?_) (fun h17 => ?_)
 ·
  have hlt : i < 4 := by have := of_decide_eq_true h17; omega
  refine xp_skip rfl ?_; refine xp_seq rfl ?_; refine xp_block rfl ?_; refine xp_seq rfl (xe_to [(31, .bool (at4 a b c d i != 2 && at4 a b c d i != 3)), (4, .int .i64 (i : Int)), (3, .slice (some ⟨B13, 0, none⟩) 4 4)] (fun S2 => S2 = S') ?_ ?_)
  ·
   refine xg (by kernel_rfl) ?_; iterate 2 refine rm rfl ?_
   refine rr rfl (rd_indexAddr rfl rfl rfl (indexAddr_slice (z := 1) Tryz.underlying31 (by kernel_rfl) ⟨by omega, by omega⟩)) ?_; refine rr rfl (rd_load rfl rfl (load1_row (by kernel_rfl) hr (by rw [Nat.zero_add]; exact at4_nth (a := a) (b := b) (c := c) (d := d) (i := i) hlt))) ?_; refine rr rfl (rd_bin rfl rfl rfl rfl) ?_; refine rm rfl ?_; refine re_bool (d := 25) rfl (fun h25 => ?_) (fun h25 => ?_)
   ·
    iterate 2 refine rm rfl ?_
    refine rr rfl (rd_indexAddr rfl rfl rfl (indexAddr_slice (z := 1) Tryz.underlying31 (by kernel_rfl) ⟨by omega, by omega⟩)) ?_; refine rr rfl (rd_load rfl rfl (load1_row (by kernel_rfl) hr (by rw [Nat.zero_add]; exact at4_nth (a := a) (b := b) (c := c) (d := d) (i := i) hlt))) ?_; refine rr rfl (rd_bin rfl rfl rfl rfl) ?_; refine rm rfl ?_; refine re_end rfl ?_
    exact ⟨rfl, ⟨bl (by first | (simp [h25]; done) | (simp only [h25, BLs])), rfl, rfl, trivial⟩, rfl⟩
   ·
    iterate 5 refine rz rfl ?_
    refine rm rfl ?_; refine re_end rfl ?_
    exact ⟨rfl, ⟨bl (by first | (simp [h25]; done) | (simp only [h25, BLs])), rfl, rfl, trivial⟩, rfl⟩
  rintro _ rfl
  refine xp_cond rfl rfl (fun h31 => ?_) (fun h31 => ?_)
  ·
   refine xs (by kernel_rfl) ?_; refine rm rfl ?_; refine re_end rfl ?_; refine xp_ret rfl ?_
   refine blk_ret (thn_ret (round_ret (blk_ret (thn_ret (done_ret (ress_tmp rfl rfl) ⟨hk, congrArg (Value.int .i64) (mensE_no (i := i) (by revert h31; unfold okm; simp only [bne]; cases (at4 a b c d i == 2) <;> cases (at4 a b c d i == 3) <;> decide)).symm⟩)))))
  ·
   refine xp_skip rfl ?_; refine xg (by kernel_rfl) ?_; refine rm rfl ?_; refine rr rfl (rd_bin rfl rfl rfl rfl) ?_; refine rm rfl ?_; refine re_end rfl ?_
   refine ⟨4 - (i + 1), by omega, i + 1, by omega, rfl, ⟨congrArg some (congrArg (Value.int .i64) (IntWalk.i64_in _ (by omega))), rfl, trivial⟩, fun j hj => ?_, hr, hk⟩
   rcases Nat.lt_succ_iff_lt_or_eq.1 hj with hj | rfl
   ·exact hok j hj
   ·revert h31; unfold okm; simp only [bne]; cases (at4 a b c d j == 2) <;> cases (at4 a b c d j == 3) <;> decide
 ·
  refine xp_exit rfl ?_; refine xs (by kernel_rfl) ?_; refine rm rfl ?_; refine re_end rfl ?_; refine xp_ret rfl ?_
  refine done_ret (ress_tmp rfl rfl) ⟨hk, congrArg (Value.int .i64) (mensE_yes fun j hj => hok j (by have := of_decide_eq_false h17; omega)).symm⟩
noncomputable def c114 : Code := Tryz.f114.body.getD .skip
theorem spec114 (s : Sg) (k1 : 1 ≤ s.kind) (k2 : s.kind ≤ 12) : CC Tryz.prog KK 114 [s.v] S (fun v S' => Keep S S' ∧ v = (keptS s (ub s.kind 0) (ub s.kind 1) (ub s.kind 2) (ub s.kind 3) (ub s.kind 4) (ub s.kind 5) (ub s.kind 6) (ub s.kind 7) (ub s.kind 8) (ub s.kind 9) (ub s.kind 10) (ub s.kind 11)).v) := by
 refine cc_enter (c := c114) (n := 76) Tryz.func114 rfl rfl rfl (by kernel_rfl) rfl rfl ?_
 have hl := Hold.start S
 refine xs (by kernel_rfl) ?_; refine re_boxL hl rfl rfl rfl rfl rfl rfl ?_; intro B1 S1 hl; refine re_allocL hl rfl rfl rfl rfl rfl (z := [.int .i64 0, .int .i64 0, .int .i64 0, .int .i64 0, .bool false, .int .i64 0, .bool false, .bool false, .int .i64 0, .int .i64 0, .int .i64 0, .int .i64 0, .bool false, .int .i64 0, .int .i64 0, .int .i64 0, .int .i64 0]) (by kernel_rfl) ?_; intro B2 S2 hl; refine re_end rfl ?_; refine xs (by kernel_rfl) ?_; refine rr rfl (rd_fieldAddr rfl rfl (fa Tryz.underlying63 az63 rfl)) ?_; refine rr rfl (rl hl 1 rfl rfl (by kernel_rfl) rfl rfl) ?_
 refine rr rfl (rd_build rfl rfl (v := aggL [.int .i64 s.kind, .int .i64 0, .int .i64 0, .int .i64 0, .bool false, .int .i64 0, .bool false, .bool false, .int .i64 0, .int .i64 0, .int .i64 0, .int .i64 0, .bool false, .int .i64 0, .int .i64 0, .int .i64 0, .int .i64 0]) (by rfl)) ?_; refine re_allocL hl rfl rfl rfl rfl rfl (z := [.int .i64 0, .int .i64 0, .int .i64 0, .int .i64 0, .bool false, .int .i64 0, .bool false, .bool false, .int .i64 0, .int .i64 0, .int .i64 0, .int .i64 0, .bool false, .int .i64 0, .int .i64 0, .int .i64 0, .int .i64 0]) (by kernel_rfl) ?_; intro B3 S3 hl
 refine re_storeL hl 0 rfl rfl rfl rfl rfl rfl rfl (by kernel_rfl) rfl ?_; intro S1 hl; refine re_end rfl ?_; refine xp_seq rfl ?_; refine xs (by kernel_rfl) ?_; refine rr rfl (rd_fieldAddr rfl rfl (fa Tryz.underlying63 az63 rfl)) ?_; refine rr rfl (rl hl 2 rfl rfl (by kernel_rfl) rfl rfl) ?_; refine re_end rfl ?_; refine xp_block rfl ?_; refine xs (by kernel_rfl) ?_; refine rr rfl (rd_bin rfl rfl rfl rfl) ?_; refine rm rfl ?_; refine re_end rfl ?_; refine xp_cond rfl rfl (fun h9 => ?_) (fun h9 => ?_)
 ·
  refine xp_draw (idx := [0, 1, 2, 3, 4, 5, 6, 7, 8, 9, 10, 11, 12, 13, 14, 15]) rfl (by kernel_rfl) (by kernel_rfl) ?_; refine pr rfl (rd_fieldAddr rfl rfl (fa Tryz.underlying63 az63 rfl)) ?_; refine pk rfl (rl hl 2 rfl rfl (by kernel_rfl) rfl rfl) ?_; refine pr rfl (rd_fieldAddr rfl rfl (fa Tryz.underlying63 az63 rfl)) ?_; refine pk rfl (rl hl 2 rfl rfl (by kernel_rfl) rfl rfl) ?_; refine pr rfl (rd_fieldAddr rfl rfl (fa Tryz.underlying63 az63 rfl)) ?_; refine pk rfl (rl hl 2 rfl rfl (by kernel_rfl) rfl rfl) ?_; refine pr rfl (rd_fieldAddr rfl rfl (fa Tryz.underlying63 az63 rfl)) ?_
  refine pk rfl (rl hl 2 rfl rfl (by kernel_rfl) rfl rfl) ?_; refine pr rfl (rd_fieldAddr rfl rfl (fa Tryz.underlying63 az63 rfl)) ?_
  refine rp_storeL hl 0 rfl rfl rfl rfl rfl rfl rfl (by kernel_rfl) rfl ?_; intro S1 hl; refine ⟨stays_of ((by repeat (first | exact trivial | refine ⟨(by first | exact stays_load (X := True) rfl rfl (load1_of (by kernel_rfl) (hl.get 2 rfl) rfl) (same_atom (atom_int _ _)) rfl trivial | exact stays_load (X := True) rfl rfl (load1_of (by kernel_rfl) (hl.get 2 rfl) rfl) (same_atom (atom_bool _)) rfl trivial | exact stays_load (X := True) rfl rfl (loadN_of (z := 4) (by kernel_rfl) (by kernel_rfl) (hl.get 2 rfl) rfl) (same_agg rfl (atoms_cons (atom_int _ _) (atoms_cons (atom_int _ _) (atoms_cons (atom_int _ _) (atoms_cons (atom_int _ _) atoms_nil))))) rfl trivial), ?_⟩))), ?_⟩
  refine pr rfl (rd_fieldAddr rfl rfl (fa Tryz.underlying63 az63 rfl)) ?_
  refine rp_storeL hl 0 rfl rfl rfl rfl rfl rfl rfl (by kernel_rfl) rfl ?_; intro S1 hl; refine ⟨stays_of (allE_left ((by repeat (first | exact trivial | refine ⟨(by first | exact stays_load (X := True) rfl rfl (load1_of (by kernel_rfl) (hl.get 2 rfl) rfl) (same_atom (atom_int _ _)) rfl trivial | exact stays_load (X := True) rfl rfl (load1_of (by kernel_rfl) (hl.get 2 rfl) rfl) (same_atom (atom_bool _)) rfl trivial | exact stays_load (X := True) rfl rfl (loadN_of (z := 4) (by kernel_rfl) (by kernel_rfl) (hl.get 2 rfl) rfl) (same_agg rfl (atoms_cons (atom_int _ _) (atoms_cons (atom_int _ _) (atoms_cons (atom_int _ _) (atoms_cons (atom_int _ _) atoms_nil))))) rfl trivial), ?_⟩)))), ?_⟩
  refine pr rfl (rd_fieldAddr rfl rfl (fa Tryz.underlying63 az63 rfl)) ?_
  refine rp_storeL hl 0 rfl rfl rfl rfl rfl rfl rfl (by kernel_rfl) rfl ?_; intro S1 hl; refine ⟨stays_of (allE_left (allE_left ((by repeat (first | exact trivial | refine ⟨(by first | exact stays_load (X := True) rfl rfl (load1_of (by kernel_rfl) (hl.get 2 rfl) rfl) (same_atom (atom_int _ _)) rfl trivial | exact stays_load (X := True) rfl rfl (load1_of (by kernel_rfl) (hl.get 2 rfl) rfl) (same_atom (atom_bool _)) rfl trivial | exact stays_load (X := True) rfl rfl (loadN_of (z := 4) (by kernel_rfl) (by kernel_rfl) (hl.get 2 rfl) rfl) (same_agg rfl (atoms_cons (atom_int _ _) (atoms_cons (atom_int _ _) (atoms_cons (atom_int _ _) (atoms_cons (atom_int _ _) atoms_nil))))) rfl trivial), ?_⟩))))), ?_⟩
  refine pr rfl (rd_fieldAddr rfl rfl (fa Tryz.underlying63 az63 rfl)) ?_
  refine rp_storeL hl 0 rfl rfl rfl rfl rfl rfl rfl (by kernel_rfl) rfl ?_; intro S1 hl; refine ⟨stays_of (allE_left (allE_left (allE_left ((by repeat (first | exact trivial | refine ⟨(by first | exact stays_load (X := True) rfl rfl (load1_of (by kernel_rfl) (hl.get 2 rfl) rfl) (same_atom (atom_int _ _)) rfl trivial | exact stays_load (X := True) rfl rfl (load1_of (by kernel_rfl) (hl.get 2 rfl) rfl) (same_atom (atom_bool _)) rfl trivial | exact stays_load (X := True) rfl rfl (loadN_of (z := 4) (by kernel_rfl) (by kernel_rfl) (hl.get 2 rfl) rfl) (same_agg rfl (atoms_cons (atom_int _ _) (atoms_cons (atom_int _ _) (atoms_cons (atom_int _ _) (atoms_cons (atom_int _ _) atoms_nil))))) rfl trivial), ?_⟩)))))), ?_⟩
  refine rp_end rfl ?_; refine xs (by kernel_rfl) ?_; refine rr rfl (rd_load rfl rfl (loadN_of (z := 17) (by kernel_rfl) (by kernel_rfl) (hl.get 0 rfl) rfl)) ?_; refine re_storeL hl 1 rfl rfl rfl rfl rfl rfl rfl (by kernel_rfl) rfl ?_; intro S1 hl; refine re_end rfl ?_; refine xp_ret rfl ?_
  refine done_ret (ress_cell rfl (loadN_of (z := 17) (by kernel_rfl) (by kernel_rfl) (hl.get 1 rfl) rfl) rfl) ⟨hl.keep, by rcases kind_cases k1 k2 with hk | hk | hk | hk | hk | hk | hk | hk | hk | hk | hk | hk <;> first | (rw [kept_k hk]; rfl) | (exfalso; simp [hk] at h9)⟩
 ·
  refine xs (by kernel_rfl) ?_; refine rr rfl (rd_bin rfl rfl rfl rfl) ?_; refine rm rfl ?_; refine re_end rfl ?_; refine xp_cond rfl rfl (fun h23 => ?_) (fun h23 => ?_)
  ·
   refine xg (by kernel_rfl) ?_; refine rr rfl (rd_fieldAddr rfl rfl (fa Tryz.underlying63 az63 rfl)) ?_; refine rr rfl (rl hl 2 rfl rfl (by kernel_rfl) rfl rfl) ?_; refine rr rfl (rd_fieldAddr rfl rfl (fa Tryz.underlying63 az63 rfl)) ?_; refine re_storeL hl 0 rfl rfl rfl rfl rfl rfl rfl (by kernel_rfl) rfl ?_; intro S1 hl; refine re_end rfl ?_; refine xs (by kernel_rfl) ?_; refine rr rfl (rd_load rfl rfl (loadN_of (z := 17) (by kernel_rfl) (by kernel_rfl) (hl.get 0 rfl) rfl)) ?_; refine re_storeL hl 1 rfl rfl rfl rfl rfl rfl rfl (by kernel_rfl) rfl ?_; intro S1 hl; refine re_end rfl ?_
   refine xp_ret rfl ?_
   refine done_ret (ress_cell rfl (loadN_of (z := 17) (by kernel_rfl) (by kernel_rfl) (hl.get 1 rfl) rfl) rfl) ⟨hl.keep, by rcases kind_cases k1 k2 with hk | hk | hk | hk | hk | hk | hk | hk | hk | hk | hk | hk <;> first | (rw [kept_k hk]; rfl) | (exfalso; simp [hk] at h23 h9)⟩
  ·
   refine xs (by kernel_rfl) ?_; refine rr rfl (rd_bin rfl rfl rfl rfl) ?_; refine rm rfl ?_; refine re_end rfl ?_; refine xp_cond rfl rfl (fun h28 => ?_) (fun h28 => ?_)
   ·
    refine xp_draw (idx := [0, 1, 2, 3, 4, 5, 6, 7, 8, 9, 10, 11, 12, 13, 14, 15, 16, 17, 18, 19, 20, 21, 22, 23]) rfl (by kernel_rfl) (by kernel_rfl) ?_; refine pr rfl (rd_fieldAddr rfl rfl (fa Tryz.underlying63 az63 rfl)) ?_; refine pk rfl (rl hl 2 rfl rfl (by kernel_rfl) rfl rfl) ?_; refine pr rfl (rd_fieldAddr rfl rfl (fa Tryz.underlying63 az63 rfl)) ?_; refine pk rfl (rl hl 2 rfl rfl (by kernel_rfl) rfl rfl) ?_; refine pr rfl (rd_fieldAddr rfl rfl (fa Tryz.underlying63 az63 rfl)) ?_; refine pk rfl (rl hl 2 rfl rfl (by kernel_rfl) rfl rfl) ?_
    refine pr rfl (rd_fieldAddr rfl rfl (fa Tryz.underlying63 az63 rfl)) ?_; refine pk rfl (rl hl 2 rfl rfl (by kernel_rfl) rfl rfl) ?_; refine pr rfl (rd_fieldAddr rfl rfl (fa Tryz.underlying63 az63 rfl)) ?_; refine pk rfl (rl hl 2 rfl rfl (by kernel_rfl) rfl rfl) ?_; refine pr rfl (rd_fieldAddr rfl rfl (fa Tryz.underlying63 az63 rfl)) ?_; refine pk rfl (rl hl 2 rfl rfl (by kernel_rfl) rfl rfl) ?_; refine pr rfl (rd_fieldAddr rfl rfl (fa Tryz.underlying63 az63 rfl)) ?_
    refine rp_storeL hl 0 rfl rfl rfl rfl rfl rfl rfl (by kernel_rfl) rfl ?_; intro S1 hl; refine ⟨stays_of ((by repeat (first | exact trivial | refine ⟨(by first | exact stays_load (X := True) rfl rfl (load1_of (by kernel_rfl) (hl.get 2 rfl) rfl) (same_atom (atom_int _ _)) rfl trivial | exact stays_load (X := True) rfl rfl (load1_of (by kernel_rfl) (hl.get 2 rfl) rfl) (same_atom (atom_bool _)) rfl trivial | exact stays_load (X := True) rfl rfl (loadN_of (z := 4) (by kernel_rfl) (by kernel_rfl) (hl.get 2 rfl) rfl) (same_agg rfl (atoms_cons (atom_int _ _) (atoms_cons (atom_int _ _) (atoms_cons (atom_int _ _) (atoms_cons (atom_int _ _) atoms_nil))))) rfl trivial), ?_⟩))), ?_⟩
    refine pr rfl (rd_fieldAddr rfl rfl (fa Tryz.underlying63 az63 rfl)) ?_
    refine rp_storeL hl 0 rfl rfl rfl rfl rfl rfl rfl (by kernel_rfl) rfl ?_; intro S1 hl; refine ⟨stays_of (allE_left ((by repeat (first | exact trivial | refine ⟨(by first | exact stays_load (X := True) rfl rfl (load1_of (by kernel_rfl) (hl.get 2 rfl) rfl) (same_atom (atom_int _ _)) rfl trivial | exact stays_load (X := True) rfl rfl (load1_of (by kernel_rfl) (hl.get 2 rfl) rfl) (same_atom (atom_bool _)) rfl trivial | exact stays_load (X := True) rfl rfl (loadN_of (z := 4) (by kernel_rfl) (by kernel_rfl) (hl.get 2 rfl) rfl) (same_agg rfl (atoms_cons (atom_int _ _) (atoms_cons (atom_int _ _) (atoms_cons (atom_int _ _) (atoms_cons (atom_int _ _) atoms_nil))))) rfl trivial), ?_⟩)))), ?_⟩
    refine pr rfl (rd_fieldAddr rfl rfl (fa Tryz.underlying63 az63 rfl)) ?_
    refine rp_storeL hl 0 rfl rfl rfl rfl rfl rfl rfl (by kernel_rfl) rfl ?_; intro S1 hl; refine ⟨stays_of (allE_left (allE_left ((by repeat (first | exact trivial | refine ⟨(by first | exact stays_load (X := True) rfl rfl (load1_of (by kernel_rfl) (hl.get 2 rfl) rfl) (same_atom (atom_int _ _)) rfl trivial | exact stays_load (X := True) rfl rfl (load1_of (by kernel_rfl) (hl.get 2 rfl) rfl) (same_atom (atom_bool _)) rfl trivial | exact stays_load (X := True) rfl rfl (loadN_of (z := 4) (by kernel_rfl) (by kernel_rfl) (hl.get 2 rfl) rfl) (same_agg rfl (atoms_cons (atom_int _ _) (atoms_cons (atom_int _ _) (atoms_cons (atom_int _ _) (atoms_cons (atom_int _ _) atoms_nil))))) rfl trivial), ?_⟩))))), ?_⟩
    refine pr rfl (rd_fieldAddr rfl rfl (fa Tryz.underlying63 az63 rfl)) ?_
    refine rp_storeL hl 0 rfl rfl rfl rfl rfl rfl rfl (by kernel_rfl) rfl ?_; intro S1 hl; refine ⟨stays_of (allE_left (allE_left (allE_left ((by repeat (first | exact trivial | refine ⟨(by first | exact stays_load (X := True) rfl rfl (load1_of (by kernel_rfl) (hl.get 2 rfl) rfl) (same_atom (atom_int _ _)) rfl trivial | exact stays_load (X := True) rfl rfl (load1_of (by kernel_rfl) (hl.get 2 rfl) rfl) (same_atom (atom_bool _)) rfl trivial | exact stays_load (X := True) rfl rfl (loadN_of (z := 4) (by kernel_rfl) (by kernel_rfl) (hl.get 2 rfl) rfl) (same_agg rfl (atoms_cons (atom_int _ _) (atoms_cons (atom_int _ _) (atoms_cons (atom_int _ _) (atoms_cons (atom_int _ _) atoms_nil))))) rfl trivial), ?_⟩)))))), ?_⟩
    refine pr rfl (rd_fieldAddr rfl rfl (fa Tryz.underlying63 az63 rfl)) ?_
    refine rp_storeL hl 0 rfl rfl rfl rfl rfl rfl rfl (by kernel_rfl) rfl ?_; intro S1 hl; refine ⟨stays_of (allE_left (allE_left (allE_left (allE_left ((by repeat (first | exact trivial | refine ⟨(by first | exact stays_load (X := True) rfl rfl (load1_of (by kernel_rfl) (hl.get 2 rfl) rfl) (same_atom (atom_int _ _)) rfl trivial | exact stays_load (X := True) rfl rfl (load1_of (by kernel_rfl) (hl.get 2 rfl) rfl) (same_atom (atom_bool _)) rfl trivial | exact stays_load (X := True) rfl rfl (loadN_of (z := 4) (by kernel_rfl) (by kernel_rfl) (hl.get 2 rfl) rfl) (same_agg rfl (atoms_cons (atom_int _ _) (atoms_cons (atom_int _ _) (atoms_cons (atom_int _ _) (atoms_cons (atom_int _ _) atoms_nil))))) rfl trivial), ?_⟩))))))), ?_⟩
    refine pr rfl (rd_fieldAddr rfl rfl (fa Tryz.underlying63 az63 rfl)) ?_
    refine rp_storeL hl 0 rfl rfl rfl rfl rfl rfl rfl (by kernel_rfl) rfl ?_; intro S1 hl; refine ⟨stays_of (allE_left (allE_left (allE_left (allE_left (allE_left ((by repeat (first | exact trivial | refine ⟨(by first | exact stays_load (X := True) rfl rfl (load1_of (by kernel_rfl) (hl.get 2 rfl) rfl) (same_atom (atom_int _ _)) rfl trivial | exact stays_load (X := True) rfl rfl (load1_of (by kernel_rfl) (hl.get 2 rfl) rfl) (same_atom (atom_bool _)) rfl trivial | exact stays_load (X := True) rfl rfl (loadN_of (z := 4) (by kernel_rfl) (by kernel_rfl) (hl.get 2 rfl) rfl) (same_agg rfl (atoms_cons (atom_int _ _) (atoms_cons (atom_int _ _) (atoms_cons (atom_int _ _) (atoms_cons (atom_int _ _) atoms_nil))))) rfl trivial), ?_⟩)))))))), ?_⟩
    refine rp_end rfl ?_; refine xs (by kernel_rfl) ?_; refine rr rfl (rd_load rfl rfl (loadN_of (z := 17) (by kernel_rfl) (by kernel_rfl) (hl.get 0 rfl) rfl)) ?_; refine re_storeL hl 1 rfl rfl rfl rfl rfl rfl rfl (by kernel_rfl) rfl ?_; intro S1 hl; refine re_end rfl ?_; refine xp_ret rfl ?_
    refine done_ret (ress_cell rfl (loadN_of (z := 17) (by kernel_rfl) (by kernel_rfl) (hl.get 1 rfl) rfl) rfl) ⟨hl.keep, by rcases kind_cases k1 k2 with hk | hk | hk | hk | hk | hk | hk | hk | hk | hk | hk | hk <;> first | (rw [kept_k hk]; rfl) | (exfalso; simp [hk] at h28 h23 h9)⟩
   ·
    refine xs (by kernel_rfl) ?_; refine rr rfl (rd_bin rfl rfl rfl rfl) ?_; refine rm rfl ?_; refine re_end rfl ?_; refine xp_cond rfl rfl (fun h48 => ?_) (fun h48 => ?_)
    ·
     refine xp_draw (idx := [0, 1, 2, 3, 4, 5, 6, 7]) rfl (by kernel_rfl) (by kernel_rfl) ?_; refine pr rfl (rd_fieldAddr rfl rfl (fa Tryz.underlying63 az63 rfl)) ?_; refine pk rfl (rd_load rfl rfl (loadN_of (z := 4) (by kernel_rfl) (by kernel_rfl) (hl.get 2 rfl) rfl)) ?_; refine pr rfl (rd_fieldAddr rfl rfl (fa Tryz.underlying63 az63 rfl)) ?_; refine pk rfl (rl hl 2 rfl rfl (by kernel_rfl) rfl rfl) ?_; refine pr rfl (rd_fieldAddr rfl rfl (fa Tryz.underlying63 az63 rfl)) ?_
     refine rp_storeL hl 0 rfl rfl rfl rfl rfl rfl rfl (by kernel_rfl) rfl ?_; intro S1 hl; refine ⟨stays_of ((by repeat (first | exact trivial | refine ⟨(by first | exact stays_load (X := True) rfl rfl (load1_of (by kernel_rfl) (hl.get 2 rfl) rfl) (same_atom (atom_int _ _)) rfl trivial | exact stays_load (X := True) rfl rfl (load1_of (by kernel_rfl) (hl.get 2 rfl) rfl) (same_atom (atom_bool _)) rfl trivial | exact stays_load (X := True) rfl rfl (loadN_of (z := 4) (by kernel_rfl) (by kernel_rfl) (hl.get 2 rfl) rfl) (same_agg rfl (atoms_cons (atom_int _ _) (atoms_cons (atom_int _ _) (atoms_cons (atom_int _ _) (atoms_cons (atom_int _ _) atoms_nil))))) rfl trivial), ?_⟩))), ?_⟩
     refine pr rfl (rd_fieldAddr rfl rfl (fa Tryz.underlying63 az63 rfl)) ?_
     refine rp_storeL hl 0 rfl rfl rfl rfl rfl rfl rfl (by kernel_rfl) rfl ?_; intro S1 hl; refine ⟨stays_of (allE_left ((by repeat (first | exact trivial | refine ⟨(by first | exact stays_load (X := True) rfl rfl (load1_of (by kernel_rfl) (hl.get 2 rfl) rfl) (same_atom (atom_int _ _)) rfl trivial | exact stays_load (X := True) rfl rfl (load1_of (by kernel_rfl) (hl.get 2 rfl) rfl) (same_atom (atom_bool _)) rfl trivial | exact stays_load (X := True) rfl rfl (loadN_of (z := 4) (by kernel_rfl) (by kernel_rfl) (hl.get 2 rfl) rfl) (same_agg rfl (atoms_cons (atom_int _ _) (atoms_cons (atom_int _ _) (atoms_cons (atom_int _ _) (atoms_cons (atom_int _ _) atoms_nil))))) rfl trivial), ?_⟩)))), ?_⟩
     refine rp_end rfl ?_; refine xs (by kernel_rfl) ?_; refine rr rfl (rd_load rfl rfl (loadN_of (z := 17) (by kernel_rfl) (by kernel_rfl) (hl.get 0 rfl) rfl)) ?_; refine re_storeL hl 1 rfl rfl rfl rfl rfl rfl rfl (by kernel_rfl) rfl ?_; intro S1 hl; refine re_end rfl ?_; refine xp_ret rfl ?_
     refine done_ret (ress_cell rfl (loadN_of (z := 17) (by kernel_rfl) (by kernel_rfl) (hl.get 1 rfl) rfl) rfl) ⟨hl.keep, by rcases kind_cases k1 k2 with hk | hk | hk | hk | hk | hk | hk | hk | hk | hk | hk | hk <;> first | (rw [kept_k hk]; rfl) | (exfalso; simp [hk] at h48 h28 h23 h9)⟩
    ·
     refine xs (by kernel_rfl) ?_; refine rr rfl (rd_bin rfl rfl rfl rfl) ?_; refine rm rfl ?_; refine re_end rfl ?_; refine xp_cond rfl rfl (fun h56 => ?_) (fun h56 => ?_)
     ·
      refine xp_draw (idx := [0, 1, 2, 3, 4, 5, 6, 7]) rfl (by kernel_rfl) (by kernel_rfl) ?_; refine pr rfl (rd_fieldAddr rfl rfl (fa Tryz.underlying63 az63 rfl)) ?_; refine pk rfl (rl hl 2 rfl rfl (by kernel_rfl) rfl rfl) ?_; refine pr rfl (rd_fieldAddr rfl rfl (fa Tryz.underlying63 az63 rfl)) ?_; refine pk rfl (rl hl 2 rfl rfl (by kernel_rfl) rfl rfl) ?_; refine pr rfl (rd_fieldAddr rfl rfl (fa Tryz.underlying63 az63 rfl)) ?_
      refine rp_storeL hl 0 rfl rfl rfl rfl rfl rfl rfl (by kernel_rfl) rfl ?_; intro S1 hl; refine ⟨stays_of ((by repeat (first | exact trivial | refine ⟨(by first | exact stays_load (X := True) rfl rfl (load1_of (by kernel_rfl) (hl.get 2 rfl) rfl) (same_atom (atom_int _ _)) rfl trivial | exact stays_load (X := True) rfl rfl (load1_of (by kernel_rfl) (hl.get 2 rfl) rfl) (same_atom (atom_bool _)) rfl trivial | exact stays_load (X := True) rfl rfl (loadN_of (z := 4) (by kernel_rfl) (by kernel_rfl) (hl.get 2 rfl) rfl) (same_agg rfl (atoms_cons (atom_int _ _) (atoms_cons (atom_int _ _) (atoms_cons (atom_int _ _) (atoms_cons (atom_int _ _) atoms_nil))))) rfl trivial), ?_⟩))), ?_⟩
      refine pr rfl (rd_fieldAddr rfl rfl (fa Tryz.underlying63 az63 rfl)) ?_
      refine rp_storeL hl 0 rfl rfl rfl rfl rfl rfl rfl (by kernel_rfl) rfl ?_; intro S1 hl; refine ⟨stays_of (allE_left ((by repeat (first | exact trivial | refine ⟨(by first | exact stays_load (X := True) rfl rfl (load1_of (by kernel_rfl) (hl.get 2 rfl) rfl) (same_atom (atom_int _ _)) rfl trivial | exact stays_load (X := True) rfl rfl (load1_of (by kernel_rfl) (hl.get 2 rfl) rfl) (same_atom (atom_bool _)) rfl trivial | exact stays_load (X := True) rfl rfl (loadN_of (z := 4) (by kernel_rfl) (by kernel_rfl) (hl.get 2 rfl) rfl) (same_agg rfl (atoms_cons (atom_int _ _) (atoms_cons (atom_int _ _) (atoms_cons (atom_int _ _) (atoms_cons (atom_int _ _) atoms_nil))))) rfl trivial), ?_⟩)))), ?_⟩
      refine rp_end rfl ?_; refine xs (by kernel_rfl) ?_; refine rr rfl (rd_load rfl rfl (loadN_of (z := 17) (by kernel_rfl) (by kernel_rfl) (hl.get 0 rfl) rfl)) ?_; refine re_storeL hl 1 rfl rfl rfl rfl rfl rfl rfl (by kernel_rfl) rfl ?_; intro S1 hl; refine re_end rfl ?_; refine xp_ret rfl ?_
      refine done_ret (ress_cell rfl (loadN_of (z := 17) (by kernel_rfl) (by kernel_rfl) (hl.get 1 rfl) rfl) rfl) ⟨hl.keep, by rcases kind_cases k1 k2 with hk | hk | hk | hk | hk | hk | hk | hk | hk | hk | hk | hk <;> first | (rw [kept_k hk]; rfl) | (exfalso; simp [hk] at h56 h48 h28 h23 h9)⟩
     ·
      refine xs (by kernel_rfl) ?_; refine rr rfl (rd_bin rfl rfl rfl rfl) ?_; refine rm rfl ?_; refine re_end rfl ?_; refine xp_cond rfl rfl (fun h64 => ?_) (fun h64 => ?_)
      ·
       refine xg (by kernel_rfl) ?_; refine rr rfl (rd_fieldAddr rfl rfl (fa Tryz.underlying63 az63 rfl)) ?_; refine rr rfl (rd_load rfl rfl (loadN_of (z := 2) (by kernel_rfl) (by kernel_rfl) (hl.get 2 rfl) rfl)) ?_; refine rr rfl (rd_fieldAddr rfl rfl (fa Tryz.underlying63 az63 rfl)) ?_; refine re_storeL hl 0 rfl rfl rfl rfl rfl rfl rfl (by kernel_rfl) rfl ?_; intro S1 hl; refine re_end rfl ?_; refine xs (by kernel_rfl) ?_; refine rr rfl (rd_load rfl rfl (loadN_of (z := 17) (by kernel_rfl) (by kernel_rfl) (hl.get 0 rfl) rfl)) ?_
       refine re_storeL hl 1 rfl rfl rfl rfl rfl rfl rfl (by kernel_rfl) rfl ?_; intro S1 hl; refine re_end rfl ?_; refine xp_ret rfl ?_
       refine done_ret (ress_cell rfl (loadN_of (z := 17) (by kernel_rfl) (by kernel_rfl) (hl.get 1 rfl) rfl) rfl) ⟨hl.keep, by rcases kind_cases k1 k2 with hk | hk | hk | hk | hk | hk | hk | hk | hk | hk | hk | hk <;> first | (rw [kept_k hk]; rfl) | (exfalso; simp [hk] at h64 h56 h48 h28 h23 h9)⟩
      ·
       refine xp_seq rfl ?_; refine xs (by kernel_rfl) ?_; refine rr rfl (rd_bin rfl rfl rfl rfl) ?_; refine rm rfl ?_; refine re_end rfl ?_; refine xp_cond rfl rfl (fun h69 => ?_) (fun h69 => ?_)
       ·
        refine xp_skip rfl ?_; refine xp_cond_t rfl (congrArg (fun b => some (Value.bool b)) h69) ?_; refine xg (by kernel_rfl) ?_; refine rr rfl (rd_fieldAddr rfl rfl (fa Tryz.underlying63 az63 rfl)) ?_; refine rr rfl (rl hl 2 rfl rfl (by kernel_rfl) rfl rfl) ?_; refine rr rfl (rd_fieldAddr rfl rfl (fa Tryz.underlying63 az63 rfl)) ?_; refine re_storeL hl 0 rfl rfl rfl rfl rfl rfl rfl (by kernel_rfl) rfl ?_; intro S1 hl; refine re_end rfl ?_; refine xs (by kernel_rfl) ?_; refine rr rfl (rd_load rfl rfl (loadN_of (z := 17) (by kernel_rfl) (by kernel_rfl) (hl.get 0 rfl) rfl)) ?_
        refine re_storeL hl 1 rfl rfl rfl rfl rfl rfl rfl (by kernel_rfl) rfl ?_; intro S1 hl; refine re_end rfl ?_; refine xp_ret rfl ?_
        refine done_ret (ress_cell rfl (loadN_of (z := 17) (by kernel_rfl) (by kernel_rfl) (hl.get 1 rfl) rfl) rfl) ⟨hl.keep, by rcases kind_cases k1 k2 with hk | hk | hk | hk | hk | hk | hk | hk | hk | hk | hk | hk <;> first | (rw [kept_k hk]; rfl) | (exfalso; simp [hk] at h69 h64 h56 h48 h28 h23 h9)⟩
       ·
        refine xg (by kernel_rfl) ?_; refine rr rfl (rd_bin rfl rfl rfl rfl) ?_; refine rm rfl ?_; refine re_end rfl ?_; refine xp_cond rfl rfl (fun h69b => ?_) (fun h69b => ?_)
        ·
         refine xg (by kernel_rfl) ?_; refine rr rfl (rd_fieldAddr rfl rfl (fa Tryz.underlying63 az63 rfl)) ?_; refine rr rfl (rl hl 2 rfl rfl (by kernel_rfl) rfl rfl) ?_; refine rr rfl (rd_fieldAddr rfl rfl (fa Tryz.underlying63 az63 rfl)) ?_; refine re_storeL hl 0 rfl rfl rfl rfl rfl rfl rfl (by kernel_rfl) rfl ?_; intro S1 hl; refine re_end rfl ?_; refine xs (by kernel_rfl) ?_; refine rr rfl (rd_load rfl rfl (loadN_of (z := 17) (by kernel_rfl) (by kernel_rfl) (hl.get 0 rfl) rfl)) ?_; refine re_storeL hl 1 rfl rfl rfl rfl rfl rfl rfl (by kernel_rfl) rfl ?_; intro S1 hl; refine re_end rfl ?_
         refine xp_ret rfl ?_
         refine done_ret (ress_cell rfl (loadN_of (z := 17) (by kernel_rfl) (by kernel_rfl) (hl.get 1 rfl) rfl) rfl) ⟨hl.keep, by rcases kind_cases k1 k2 with hk | hk | hk | hk | hk | hk | hk | hk | hk | hk | hk | hk <;> first | (rw [kept_k hk]; rfl) | (exfalso; simp [hk] at h69b h69 h64 h56 h48 h28 h23 h9)⟩
        ·
         refine xp_skip rfl ?_; refine xs (by kernel_rfl) ?_; refine rr rfl (rd_load rfl rfl (loadN_of (z := 17) (by kernel_rfl) (by kernel_rfl) (hl.get 0 rfl) rfl)) ?_; refine re_storeL hl 1 rfl rfl rfl rfl rfl rfl rfl (by kernel_rfl) rfl ?_; intro S1 hl; refine re_end rfl ?_; refine xp_ret rfl ?_
         refine done_ret (ress_cell rfl (loadN_of (z := 17) (by kernel_rfl) (by kernel_rfl) (hl.get 1 rfl) rfl) rfl) ⟨hl.keep, by rcases kind_cases k1 k2 with hk | hk | hk | hk | hk | hk | hk | hk | hk | hk | hk | hk <;> first | (rw [kept_k hk]; rfl) | (exfalso; simp [hk] at h69b h69 h64 h56 h48 h28 h23 h9)⟩
end Go.Proofs.YtkmhecihkckcmaaGreatDoor
namespace Go.Proofs.YtkmhecihkckcmaaGreatDoor
open Go.Cm Go
set_option maxRecDepth 100000
variable {S : St}
noncomputable def c116 : Code := Tryz.f116.body.getD .skip
theorem spec116 (s : Sg) (k1 : 1 ≤ s.kind) (k2 : s.kind ≤ 12) : CC Tryz.prog KK 116 [s.v] S (fun v S' => Keep S S' ∧ v = .bool (rangedF s (ub s.kind 0) (ub s.kind 1) (ub s.kind 2) (ub s.kind 4) (ub s.kind 10) (ub s.kind 11))) := by
 refine cc_enter (c := c116) (n := 84) Tryz.func116 rfl rfl rfl (by kernel_rfl) rfl rfl ?_
 have hl := Hold.start S
 refine xs (by kernel_rfl) ?_; refine re_boxL hl rfl rfl rfl rfl rfl rfl ?_; intro B1 S1 hl; refine rm rfl ?_; refine re_end rfl ?_; refine xp_seq rfl ?_; refine xs (by kernel_rfl) ?_; refine rr rfl (rd_fieldAddr rfl rfl (fa Tryz.underlying63 az63 rfl)) ?_; refine rr rfl (rl hl 0 rfl rfl (by kernel_rfl) rfl rfl) ?_; refine re_end rfl ?_; refine xp_block rfl ?_; refine xs (by kernel_rfl) ?_; refine rr rfl (rd_bin rfl rfl rfl rfl) ?_; refine rm rfl ?_; refine re_end rfl ?_; refine xp_cond rfl rfl (fun h5 => ?_) (fun h5 => ?_)
 ·
  refine xs (by kernel_rfl) ?_; refine rr rfl (rd_fieldAddr rfl rfl (fa Tryz.underlying63 az63 rfl)) ?_; refine rr rfl (rl hl 0 rfl rfl (by kernel_rfl) rfl rfl) ?_
  refine re_callL hl rfl rfl rfl rfl rfl rfl rfl (spec141 _ _ _) ?_; rintro v S1 hk1 rfl hl
  refine rm rfl ?_; refine re_bool (d := 10) rfl (fun h10 => ?_) (fun h10 => ?_)
  ·
   refine rr rfl (rd_fieldAddr rfl rfl (fa Tryz.underlying63 az63 rfl)) ?_; refine rr rfl (rl hl 0 rfl rfl (by kernel_rfl) rfl rfl) ?_
   refine re_callL hl rfl rfl rfl rfl rfl rfl rfl (spec141 _ _ _) ?_; rintro v S1 hk1 rfl hl
   iterate 2 refine rm rfl ?_
   refine re_bool (d := 15) rfl (fun h15 => ?_) (fun h15 => ?_)
   ·
    refine rr rfl (rd_fieldAddr rfl rfl (fa Tryz.underlying63 az63 rfl)) ?_; refine rr rfl (rl hl 0 rfl rfl (by kernel_rfl) rfl rfl) ?_
    refine re_callL hl rfl rfl rfl rfl rfl rfl rfl (spec141 _ _ _) ?_; rintro v S1 hk1 rfl hl
    iterate 2 refine rm rfl ?_
    refine re_end rfl ?_; refine xp_ret rfl ?_
    refine blk_ret (thn_ret (done_ret (ress_tmp rfl rfl) ⟨hl.keep, congrArg Value.bool (by rcases kind_cases k1 k2 with hk | hk | hk | hk | hk | hk | hk | hk | hk | hk | hk | hk <;> first | (exfalso; simp [hk] at h15 h10 h5; done) | (rw [rng_1 hk]; unfold rangedF; simp only [hk, h15, h10, BLs, Int.reduceBEq]; done) | (rw [rng_1 hk]; unfold rangedF; simp [hk, h15, h10]; done) | (rw [rng_1 hk]; unfold rangedF; simp only [h15, h10]; simp [hk]; done))⟩))
   ·
    iterate 3 refine rz rfl ?_
    iterate 2 refine rm rfl ?_
    refine re_end rfl ?_; refine xp_ret rfl ?_
    refine blk_ret (thn_ret (done_ret (ress_tmp rfl rfl) ⟨hl.keep, congrArg Value.bool (by rcases kind_cases k1 k2 with hk | hk | hk | hk | hk | hk | hk | hk | hk | hk | hk | hk <;> first | (exfalso; simp [hk] at h15 h10 h5; done) | (rw [rng_1 hk]; unfold rangedF; simp only [hk, h15, h10, BLs, Int.reduceBEq]; done) | (rw [rng_1 hk]; unfold rangedF; simp [hk, h15, h10]; done) | (rw [rng_1 hk]; unfold rangedF; simp only [h15, h10]; simp [hk]; done))⟩))
  ·
   iterate 3 refine rz rfl ?_
   iterate 2 refine rm rfl ?_
   iterate 3 refine rz rfl ?_
   iterate 2 refine rm rfl ?_
   refine re_end rfl ?_; refine xp_ret rfl ?_
   refine blk_ret (thn_ret (done_ret (ress_tmp rfl rfl) ⟨hl.keep, congrArg Value.bool (by rcases kind_cases k1 k2 with hk | hk | hk | hk | hk | hk | hk | hk | hk | hk | hk | hk <;> first | (exfalso; simp [hk] at h10 h5; done) | (rw [rng_1 hk]; unfold rangedF; simp only [hk, h10, BLs, Int.reduceBEq]; done) | (rw [rng_1 hk]; unfold rangedF; simp [hk, h10]; done) | (rw [rng_1 hk]; unfold rangedF; simp only [h10]; simp [hk]; done))⟩))
 ·
  refine xs (by kernel_rfl) ?_; refine rr rfl (rd_bin rfl rfl rfl rfl) ?_; refine rm rfl ?_; refine re_end rfl ?_; refine xp_cond rfl rfl (fun h20 => ?_) (fun h20 => ?_)
  ·
   refine xs (by kernel_rfl) ?_; refine rr rfl (rd_fieldAddr rfl rfl (fa Tryz.underlying63 az63 rfl)) ?_; refine rr rfl (rl hl 0 rfl rfl (by kernel_rfl) rfl rfl) ?_
   refine re_callL hl rfl rfl rfl rfl rfl rfl rfl (spec141 _ _ _) ?_; rintro v S1 hk1 rfl hl
   refine rm rfl ?_; refine re_end rfl ?_; refine xp_ret rfl ?_
   refine blk_ret (thn_ret (done_ret (ress_tmp rfl rfl) ⟨hl.keep, congrArg Value.bool (by rcases kind_cases k1 k2 with hk | hk | hk | hk | hk | hk | hk | hk | hk | hk | hk | hk <;> first | (exfalso; simp [hk] at h20 h5; done) | (rw [rng_2 hk]; unfold rangedF; simp only [hk, hk, BLs, Int.reduceBEq]; done) | (rw [rng_2 hk]; unfold rangedF; simp [hk, hk]; done) | (rw [rng_2 hk]; unfold rangedF; simp only [hk]; simp [hk]; done))⟩))
  ·
   refine xs (by kernel_rfl) ?_; refine rr rfl (rd_bin rfl rfl rfl rfl) ?_; refine rm rfl ?_; refine re_end rfl ?_; refine xp_cond rfl rfl (fun h25 => ?_) (fun h25 => ?_)
   ·
    refine xs (by kernel_rfl) ?_; refine rr rfl (rd_fieldAddr rfl rfl (fa Tryz.underlying63 az63 rfl)) ?_; refine rr rfl (rl hl 0 rfl rfl (by kernel_rfl) rfl rfl) ?_
    refine re_callL hl rfl rfl rfl rfl rfl rfl rfl (spec141 _ _ _) ?_; rintro v S1 hk1 rfl hl
    refine rm rfl ?_; refine re_bool (d := 30) rfl (fun h30 => ?_) (fun h30 => ?_)
    ·
     refine rr rfl (rd_fieldAddr rfl rfl (fa Tryz.underlying63 az63 rfl)) ?_; refine rr rfl (rl hl 0 rfl rfl (by kernel_rfl) rfl rfl) ?_
     refine re_callL hl rfl rfl rfl rfl rfl rfl rfl (spec141 _ _ _) ?_; rintro v S1 hk1 rfl hl
     iterate 2 refine rm rfl ?_
     refine re_bool (d := 35) rfl (fun h35 => ?_) (fun h35 => ?_)
     ·
      refine rr rfl (rd_fieldAddr rfl rfl (fa Tryz.underlying63 az63 rfl)) ?_; refine rr rfl (rl hl 0 rfl rfl (by kernel_rfl) rfl rfl) ?_
      refine re_callL hl rfl rfl rfl rfl rfl rfl rfl (spec141 _ _ _) ?_; rintro v S1 hk1 rfl hl
      iterate 2 refine rm rfl ?_
      refine re_end rfl ?_; refine xp_ret rfl ?_
      refine blk_ret (thn_ret (done_ret (ress_tmp rfl rfl) ⟨hl.keep, congrArg Value.bool (by rcases kind_cases k1 k2 with hk | hk | hk | hk | hk | hk | hk | hk | hk | hk | hk | hk <;> first | (exfalso; simp [hk] at h35 h30 h25 h20 h5; done) | (rw [rng_4 hk]; unfold rangedF; simp only [hk, h35, h30, BLs, Int.reduceBEq]; done) | (rw [rng_4 hk]; unfold rangedF; simp [hk, h35, h30]; done) | (rw [rng_4 hk]; unfold rangedF; simp only [h35, h30]; simp [hk]; done))⟩))
     ·
      iterate 3 refine rz rfl ?_
      iterate 2 refine rm rfl ?_
      refine re_end rfl ?_; refine xp_ret rfl ?_
      refine blk_ret (thn_ret (done_ret (ress_tmp rfl rfl) ⟨hl.keep, congrArg Value.bool (by rcases kind_cases k1 k2 with hk | hk | hk | hk | hk | hk | hk | hk | hk | hk | hk | hk <;> first | (exfalso; simp [hk] at h35 h30 h25 h20 h5; done) | (rw [rng_4 hk]; unfold rangedF; simp only [hk, h35, h30, BLs, Int.reduceBEq]; done) | (rw [rng_4 hk]; unfold rangedF; simp [hk, h35, h30]; done) | (rw [rng_4 hk]; unfold rangedF; simp only [h35, h30]; simp [hk]; done))⟩))
    ·
     iterate 3 refine rz rfl ?_
     iterate 2 refine rm rfl ?_
     iterate 3 refine rz rfl ?_
     iterate 2 refine rm rfl ?_
     refine re_end rfl ?_; refine xp_ret rfl ?_
     refine blk_ret (thn_ret (done_ret (ress_tmp rfl rfl) ⟨hl.keep, congrArg Value.bool (by rcases kind_cases k1 k2 with hk | hk | hk | hk | hk | hk | hk | hk | hk | hk | hk | hk <;> first | (exfalso; simp [hk] at h30 h25 h20 h5; done) | (rw [rng_4 hk]; unfold rangedF; simp only [hk, h30, BLs, Int.reduceBEq]; done) | (rw [rng_4 hk]; unfold rangedF; simp [hk, h30]; done) | (rw [rng_4 hk]; unfold rangedF; simp only [h30]; simp [hk]; done))⟩))
   ·
    refine xs (by kernel_rfl) ?_; refine rr rfl (rd_bin rfl rfl rfl rfl) ?_; refine rm rfl ?_; refine re_end rfl ?_; refine xp_cond rfl rfl (fun h40 => ?_) (fun h40 => ?_)
    ·
     refine xs (by kernel_rfl) ?_; refine rr rfl (rd_fieldAddr rfl rfl (fa Tryz.underlying63 az63 rfl)) ?_; refine rr rfl (rl hl 0 rfl rfl (by kernel_rfl) rfl rfl) ?_
     refine re_callL hl rfl rfl rfl rfl rfl rfl rfl (spec141 _ _ _) ?_; rintro v S1 hk1 rfl hl
     refine rm rfl ?_; refine re_bool (d := 45) rfl (fun h45 => ?_) (fun h45 => ?_)
     ·
      refine rr rfl (rd_fieldAddr rfl rfl (fa Tryz.underlying63 az63 rfl)) ?_; refine rr rfl (rl hl 0 rfl rfl (by kernel_rfl) rfl rfl) ?_
      refine re_callL hl rfl rfl rfl rfl rfl rfl rfl (spec141 _ _ _) ?_; rintro v S1 hk1 rfl hl
      iterate 2 refine rm rfl ?_
      refine re_end rfl ?_; refine xp_ret rfl ?_
      refine blk_ret (thn_ret (done_ret (ress_tmp rfl rfl) ⟨hl.keep, congrArg Value.bool (by rcases kind_cases k1 k2 with hk | hk | hk | hk | hk | hk | hk | hk | hk | hk | hk | hk <;> first | (exfalso; simp [hk] at h45 h40 h25 h20 h5; done) | (rw [rng_6 hk]; unfold rangedF; simp only [hk, h45, BLs, Int.reduceBEq]; done) | (rw [rng_6 hk]; unfold rangedF; simp [hk, h45]; done) | (rw [rng_6 hk]; unfold rangedF; simp only [h45]; simp [hk]; done))⟩))
     ·
      iterate 3 refine rz rfl ?_
      iterate 2 refine rm rfl ?_
      refine re_end rfl ?_; refine xp_ret rfl ?_
      refine blk_ret (thn_ret (done_ret (ress_tmp rfl rfl) ⟨hl.keep, congrArg Value.bool (by rcases kind_cases k1 k2 with hk | hk | hk | hk | hk | hk | hk | hk | hk | hk | hk | hk <;> first | (exfalso; simp [hk] at h45 h40 h25 h20 h5; done) | (rw [rng_6 hk]; unfold rangedF; simp only [hk, h45, BLs, Int.reduceBEq]; done) | (rw [rng_6 hk]; unfold rangedF; simp [hk, h45]; done) | (rw [rng_6 hk]; unfold rangedF; simp only [h45]; simp [hk]; done))⟩))
    ·
     refine xs (by kernel_rfl) ?_; refine rr rfl (rd_bin rfl rfl rfl rfl) ?_; refine rm rfl ?_; refine re_end rfl ?_; refine xp_cond rfl rfl (fun h50 => ?_) (fun h50 => ?_)
     ·
      refine xs (by kernel_rfl) ?_; refine rr rfl (rd_fieldAddr rfl rfl (fa Tryz.underlying63 az63 rfl)) ?_; refine rr rfl (rd_fieldAddr rfl rfl (fa Tryz.underlying61 az61 rfl)) ?_; refine rr rfl (rl hl 0 rfl rfl (by kernel_rfl) rfl rfl) ?_; refine rr rfl (rd_bin rfl rfl rfl rfl) ?_; refine rm rfl ?_; refine re_bool (d := 56) rfl (fun h56 => ?_) (fun h56 => ?_)
      ·
       iterate 4 refine rz rfl ?_
       iterate 2 refine rm rfl ?_
       iterate 4 refine rz rfl ?_
       iterate 2 refine rm rfl ?_
       refine rr rfl (rd_fieldAddr rfl rfl (fa Tryz.underlying63 az63 rfl)) ?_; refine rr rfl (rd_fieldAddr rfl rfl (fa Tryz.underlying61 az61 rfl)) ?_; refine rr rfl (rl hl 0 rfl rfl (by kernel_rfl) rfl rfl) ?_
       refine re_callL hl rfl rfl rfl rfl rfl rfl rfl (spec141 _ _ _) ?_; rintro v S1 hk1 rfl hl
       iterate 2 refine rm rfl ?_
       refine re_end rfl ?_; refine xp_ret rfl ?_
       refine blk_ret (thn_ret (done_ret (ress_tmp rfl rfl) ⟨hl.keep, congrArg Value.bool (by rcases kind_cases k1 k2 with hk | hk | hk | hk | hk | hk | hk | hk | hk | hk | hk | hk <;> first | (exfalso; simp [hk] at h56 h50 h40 h25 h20 h5; done) | (rw [rng_7 hk]; unfold rangedF; simp only [hk, h56, BLs, Int.reduceBEq]; done) | (rw [rng_7 hk]; unfold rangedF; simp [hk, h56]; done) | (rw [rng_7 hk]; unfold rangedF; simp only [h56]; simp [hk]; done) | (rw [rng_7 hk]; unfold rangedF; simp only [bne, hk, h56, BLs, Int.reduceBEq]; done))⟩))
      ·
       refine rr rfl (rd_fieldAddr rfl rfl (fa Tryz.underlying63 az63 rfl)) ?_; refine rr rfl (rd_fieldAddr rfl rfl (fa Tryz.underlying61 az61 rfl)) ?_; refine rr rfl (rl hl 0 rfl rfl (by kernel_rfl) rfl rfl) ?_; refine rr rfl (rd_bin rfl rfl rfl rfl) ?_; iterate 2 refine rm rfl ?_
       refine re_bool (d := 62) rfl (fun h62 => ?_) (fun h62 => ?_)
       ·
        iterate 4 refine rz rfl ?_
        iterate 2 refine rm rfl ?_
        refine rr rfl (rd_fieldAddr rfl rfl (fa Tryz.underlying63 az63 rfl)) ?_; refine rr rfl (rd_fieldAddr rfl rfl (fa Tryz.underlying61 az61 rfl)) ?_; refine rr rfl (rl hl 0 rfl rfl (by kernel_rfl) rfl rfl) ?_
        refine re_callL hl rfl rfl rfl rfl rfl rfl rfl (spec141 _ _ _) ?_; rintro v S1 hk1 rfl hl
        iterate 2 refine rm rfl ?_
        refine re_end rfl ?_; refine xp_ret rfl ?_
        refine blk_ret (thn_ret (done_ret (ress_tmp rfl rfl) ⟨hl.keep, congrArg Value.bool (by rcases kind_cases k1 k2 with hk | hk | hk | hk | hk | hk | hk | hk | hk | hk | hk | hk <;> first | (exfalso; simp [hk] at h62 h56 h50 h40 h25 h20 h5; done) | (rw [rng_7 hk]; unfold rangedF; simp only [hk, h62, h56, BLs, Int.reduceBEq]; done) | (rw [rng_7 hk]; unfold rangedF; simp [hk, h62, h56]; done) | (rw [rng_7 hk]; unfold rangedF; simp only [h62, h56]; simp [hk]; done) | (rw [rng_7 hk]; unfold rangedF; simp only [bne, hk, h62, h56, BLs, Int.reduceBEq]; done))⟩))
       ·
        refine rr rfl (rd_fieldAddr rfl rfl (fa Tryz.underlying63 az63 rfl)) ?_; refine rr rfl (rd_fieldAddr rfl rfl (fa Tryz.underlying61 az61 rfl)) ?_; refine rr rfl (rl hl 0 rfl rfl (by kernel_rfl) rfl rfl) ?_; refine rr rfl (rd_bin rfl rfl rfl rfl) ?_; iterate 2 refine rm rfl ?_
        refine re_bool (d := 68) rfl (fun h68 => ?_) (fun h68 => ?_)
        ·
         refine rr rfl (rd_fieldAddr rfl rfl (fa Tryz.underlying63 az63 rfl)) ?_; refine rr rfl (rd_fieldAddr rfl rfl (fa Tryz.underlying61 az61 rfl)) ?_; refine rr rfl (rl hl 0 rfl rfl (by kernel_rfl) rfl rfl) ?_
         refine re_callL hl rfl rfl rfl rfl rfl rfl rfl (spec141 _ _ _) ?_; rintro v S1 hk1 rfl hl
         iterate 2 refine rm rfl ?_
         refine re_end rfl ?_; refine xp_ret rfl ?_
         refine blk_ret (thn_ret (done_ret (ress_tmp rfl rfl) ⟨hl.keep, congrArg Value.bool (by rcases kind_cases k1 k2 with hk | hk | hk | hk | hk | hk | hk | hk | hk | hk | hk | hk <;> first | (exfalso; simp [hk] at h68 h62 h56 h50 h40 h25 h20 h5; done) | (rw [rng_7 hk]; unfold rangedF; simp only [hk, h68, h62, h56, BLs, Int.reduceBEq]; done) | (rw [rng_7 hk]; unfold rangedF; simp [hk, h68, h62, h56]; done) | (rw [rng_7 hk]; unfold rangedF; simp only [h68, h62, h56]; simp [hk]; done) | (rw [rng_7 hk]; unfold rangedF; simp only [bne, hk, h68, h62, h56, BLs, Int.reduceBEq]; done))⟩))
        ·
         iterate 4 refine rz rfl ?_
         iterate 2 refine rm rfl ?_
         refine re_end rfl ?_; refine xp_ret rfl ?_
         refine blk_ret (thn_ret (done_ret (ress_tmp rfl rfl) ⟨hl.keep, congrArg Value.bool (by rcases kind_cases k1 k2 with hk | hk | hk | hk | hk | hk | hk | hk | hk | hk | hk | hk <;> first | (exfalso; simp [hk] at h68 h62 h56 h50 h40 h25 h20 h5; done) | (rw [rng_7 hk]; unfold rangedF; simp only [hk, h68, h62, h56, BLs, Int.reduceBEq]; done) | (rw [rng_7 hk]; unfold rangedF; simp [hk, h68, h62, h56]; done) | (rw [rng_7 hk]; unfold rangedF; simp only [h68, h62, h56]; simp [hk]; done) | (rw [rng_7 hk]; unfold rangedF; simp only [bne, hk, h68, h62, h56, BLs, Int.reduceBEq]; done))⟩))
     ·
      refine xs (by kernel_rfl) ?_; refine rr rfl (rd_bin rfl rfl rfl rfl) ?_; refine rm rfl ?_; refine re_end rfl ?_; refine xp_cond rfl rfl (fun h74 => ?_) (fun h74 => ?_)
      ·
       refine xs (by kernel_rfl) ?_; refine rr rfl (rd_fieldAddr rfl rfl (fa Tryz.underlying63 az63 rfl)) ?_; refine rr rfl (rl hl 0 rfl rfl (by kernel_rfl) rfl rfl) ?_
       refine re_callL hl rfl rfl rfl rfl rfl rfl rfl (spec141 _ _ _) ?_; rintro v S1 hk1 rfl hl
       refine rm rfl ?_; refine re_end rfl ?_; refine xp_ret rfl ?_
       refine blk_ret (thn_ret (done_ret (ress_tmp rfl rfl) ⟨hl.keep, congrArg Value.bool (by rcases kind_cases k1 k2 with hk | hk | hk | hk | hk | hk | hk | hk | hk | hk | hk | hk <;> first | (exfalso; simp [hk] at h74 h50 h40 h25 h20 h5; done) | (rw [rng_8 hk]; unfold rangedF; simp only [hk, hk, BLs, Int.reduceBEq]; done) | (rw [rng_8 hk]; unfold rangedF; simp [hk, hk]; done) | (rw [rng_8 hk]; unfold rangedF; simp only [hk]; simp [hk]; done))⟩))
      ·
       refine xs (by kernel_rfl) ?_; refine rr rfl (rd_bin rfl rfl rfl rfl) ?_; refine rm rfl ?_; refine re_end rfl ?_; refine xp_cond rfl rfl (fun h79 => ?_) (fun h79 => ?_)
       ·
        refine xs (by kernel_rfl) ?_; refine rr rfl (rd_fieldAddr rfl rfl (fa Tryz.underlying63 az63 rfl)) ?_; refine rr rfl (rl hl 0 rfl rfl (by kernel_rfl) rfl rfl) ?_
        refine re_callL hl rfl rfl rfl rfl rfl rfl rfl (spec141 _ _ _) ?_; rintro v S1 hk1 rfl hl
        refine rm rfl ?_; refine re_end rfl ?_; refine xp_ret rfl ?_
        refine blk_ret (thn_ret (done_ret (ress_tmp rfl rfl) ⟨hl.keep, congrArg Value.bool (by rcases kind_cases k1 k2 with hk | hk | hk | hk | hk | hk | hk | hk | hk | hk | hk | hk <;> first | (exfalso; simp [hk] at h79 h74 h50 h40 h25 h20 h5; done) | (rw [rng_10 hk]; unfold rangedF; simp only [hk, hk, BLs, Int.reduceBEq]; done) | (rw [rng_10 hk]; unfold rangedF; simp [hk, hk]; done) | (rw [rng_10 hk]; unfold rangedF; simp only [hk]; simp [hk]; done))⟩))
       ·
        refine xp_skip rfl ?_; refine xs (by kernel_rfl) ?_; refine rm rfl ?_; refine re_end rfl ?_; refine xp_ret rfl ?_
        refine done_ret (ress_tmp rfl rfl) ⟨hl.keep, congrArg Value.bool (by rcases kind_cases k1 k2 with hk | hk | hk | hk | hk | hk | hk | hk | hk | hk | hk | hk <;> first | (exfalso; simp [hk] at h79 h74 h50 h40 h25 h20 h5; done) | (rw [rng_3 hk]; unfold rangedF; simp only [hk, hk, BLs, Int.reduceBEq]; done) | (rw [rng_3 hk]; unfold rangedF; simp [hk, hk]; done) | (rw [rng_3 hk]; unfold rangedF; simp only [hk]; simp [hk]; done) | (rw [rng_5 hk]; unfold rangedF; simp only [hk, hk, BLs, Int.reduceBEq]; done) | (rw [rng_5 hk]; unfold rangedF; simp [hk, hk]; done) | (rw [rng_5 hk]; unfold rangedF; simp only [hk]; simp [hk]; done) | (rw [rng_9 hk]; unfold rangedF; simp only [hk, hk, BLs, Int.reduceBEq]; done) | (rw [rng_9 hk]; unfold rangedF; simp [hk, hk]; done) | (rw [rng_9 hk]; unfold rangedF; simp only [hk]; simp [hk]; done) | (rw [rng_11 hk]; unfold rangedF; simp only [hk, hk, BLs, Int.reduceBEq]; done) | (rw [rng_11 hk]; unfold rangedF; simp [hk, hk]; done) | (rw [rng_11 hk]; unfold rangedF; simp only [hk]; simp [hk]; done) | (rw [rng_12 hk]; unfold rangedF; simp only [hk, hk, BLs, Int.reduceBEq]; done) | (rw [rng_12 hk]; unfold rangedF; simp [hk, hk]; done) | (rw [rng_12 hk]; unfold rangedF; simp only [hk]; simp [hk]; done))⟩
end Go.Proofs.YtkmhecihkckcmaaGreatDoor
namespace Go.Proofs.YtkmhecihkckcmaaGreatDoor
open Go.Cm Go
set_option maxRecDepth 100000
variable {S : St}
theorem one_1 {s : Sg} (h : (decide (s.kind < 1) || decide (s.kind > 12)) = true) : one s = 8 := by unfold one; rw [h]; rfl
theorem one_2 {s : Sg} (h : (decide (s.kind < 1) || decide (s.kind > 12)) = false) (h2 : (!decide (keptS s (ub s.kind 0) (ub s.kind 1) (ub s.kind 2) (ub s.kind 3) (ub s.kind 4) (ub s.kind 5) (ub s.kind 6) (ub s.kind 7) (ub s.kind 8) (ub s.kind 9) (ub s.kind 10) (ub s.kind 11) = s)) = true) : one s = 3 := by
 have h2' : (!decide (s = keptS s (ub s.kind 0) (ub s.kind 1) (ub s.kind 2) (ub s.kind 3) (ub s.kind 4) (ub s.kind 5) (ub s.kind 6) (ub s.kind 7) (ub s.kind 8) (ub s.kind 9) (ub s.kind 10) (ub s.kind 11))) = true := by rw [← h2]; congr 1; simp only [eq_comm]
 unfold one; rw [h, h2']; rfl
theorem one_k {s : Sg} (h2 : (!decide (keptS s (ub s.kind 0) (ub s.kind 1) (ub s.kind 2) (ub s.kind 3) (ub s.kind 4) (ub s.kind 5) (ub s.kind 6) (ub s.kind 7) (ub s.kind 8) (ub s.kind 9) (ub s.kind 10) (ub s.kind 11) = s)) = false) : (!decide (s = keptS s (ub s.kind 0) (ub s.kind 1) (ub s.kind 2) (ub s.kind 3) (ub s.kind 4) (ub s.kind 5) (ub s.kind 6) (ub s.kind 7) (ub s.kind 8) (ub s.kind 9) (ub s.kind 10) (ub s.kind 11))) = false := by rw [← h2]; congr 1; simp only [eq_comm]
theorem one_3 {s : Sg} (h : (decide (s.kind < 1) || decide (s.kind > 12)) = false) (h2 : (!decide (keptS s (ub s.kind 0) (ub s.kind 1) (ub s.kind 2) (ub s.kind 3) (ub s.kind 4) (ub s.kind 5) (ub s.kind 6) (ub s.kind 7) (ub s.kind 8) (ub s.kind 9) (ub s.kind 10) (ub s.kind 11) = s)) = false) (h3 : (ub s.kind 7 && (mensE s.mx s.md s.tm s.pr != 0)) = true) : one s = 12 := by
 unfold one; rw [h, one_k h2, h3]; rfl
theorem one_4 {s : Sg} (h : (decide (s.kind < 1) || decide (s.kind > 12)) = false) (h2 : (!decide (keptS s (ub s.kind 0) (ub s.kind 1) (ub s.kind 2) (ub s.kind 3) (ub s.kind 4) (ub s.kind 5) (ub s.kind 6) (ub s.kind 7) (ub s.kind 8) (ub s.kind 9) (ub s.kind 10) (ub s.kind 11) = s)) = false) (h3 : (ub s.kind 7 && (mensE s.mx s.md s.tm s.pr != 0)) = false) (h4 : (!rangedF s (ub s.kind 0) (ub s.kind 1) (ub s.kind 2) (ub s.kind 4) (ub s.kind 10) (ub s.kind 11)) = true) : one s = 2 := by
 unfold one; rw [h, one_k h2, h3, h4]; rfl
theorem one_5 {s : Sg} (h : (decide (s.kind < 1) || decide (s.kind > 12)) = false) (h2 : (!decide (keptS s (ub s.kind 0) (ub s.kind 1) (ub s.kind 2) (ub s.kind 3) (ub s.kind 4) (ub s.kind 5) (ub s.kind 6) (ub s.kind 7) (ub s.kind 8) (ub s.kind 9) (ub s.kind 10) (ub s.kind 11) = s)) = false) (h3 : (ub s.kind 7 && (mensE s.mx s.md s.tm s.pr != 0)) = false) (h4 : (!rangedF s (ub s.kind 0) (ub s.kind 1) (ub s.kind 2) (ub s.kind 4) (ub s.kind 10) (ub s.kind 11)) = false) (h5 : (s.oblique && s.last) = true) : one s = 3 := by
 unfold one; rw [h, one_k h2, h3, h4, h5]; rfl
theorem one_6 {s : Sg} (h : (decide (s.kind < 1) || decide (s.kind > 12)) = false) (h2 : (!decide (keptS s (ub s.kind 0) (ub s.kind 1) (ub s.kind 2) (ub s.kind 3) (ub s.kind 4) (ub s.kind 5) (ub s.kind 6) (ub s.kind 7) (ub s.kind 8) (ub s.kind 9) (ub s.kind 10) (ub s.kind 11) = s)) = false) (h3 : (ub s.kind 7 && (mensE s.mx s.md s.tm s.pr != 0)) = false) (h4 : (!rangedF s (ub s.kind 0) (ub s.kind 1) (ub s.kind 2) (ub s.kind 4) (ub s.kind 10) (ub s.kind 11)) = false) (h5 : (s.oblique && s.last) = false) : one s = 0 := by
 unfold one; rw [h, one_k h2, h3, h4, h5]; rfl
noncomputable def c88 : Code := Tryz.f88.body.getD .skip
theorem spec88 (s : Sg) : CC Tryz.prog KK 88 [s.v] S (fun v S' => Keep S S' ∧ v = .int .i64 (one s)) := by
 refine cc_enter (c := c88) (n := 38) Tryz.func88 rfl rfl rfl (by kernel_rfl) rfl rfl ?_
 have hl := Hold.start S
 refine xs (by kernel_rfl) ?_; refine re_boxL hl rfl rfl rfl rfl rfl rfl ?_; intro B1 S1 hl; refine rm rfl ?_; refine re_end rfl ?_; refine xp_seq rfl ?_; refine xp_block rfl ?_; refine xp_seq rfl (xe_toL hl [(3, .bool (decide (s.kind < 1) || decide (s.kind > 12))), (1, ptrTo B1 0)] ?_ ?_)
 ·
  refine xg (by kernel_rfl) ?_; refine rr rfl (rd_fieldAddr rfl rfl (fa Tryz.underlying63 az63 rfl)) ?_; refine rr rfl (rl hl 0 rfl rfl (by kernel_rfl) rfl rfl) ?_; refine rr rfl (rd_bin rfl rfl rfl rfl) ?_; refine rm rfl ?_; refine re_bool (d := 7) rfl (fun h7 => ?_) (fun h7 => ?_)
  ·
   iterate 3 refine rz rfl ?_
   iterate 2 refine rm rfl ?_
   refine re_end rfl ?_
   exact ⟨rfl, ⟨bl (by first | (simp [h7]; done) | (simp only [h7, BLs])), rfl, trivial⟩, hl⟩
  ·
   refine rr rfl (rd_fieldAddr rfl rfl (fa Tryz.underlying63 az63 rfl)) ?_; refine rr rfl (rl hl 0 rfl rfl (by kernel_rfl) rfl rfl) ?_; refine rr rfl (rd_bin rfl rfl rfl rfl) ?_; iterate 2 refine rm rfl ?_
   refine re_end rfl ?_
   exact ⟨rfl, ⟨bl (by first | (simp [h7]; done) | (simp only [h7, BLs])), rfl, trivial⟩, hl⟩
 intro S1 hl
 refine xp_cond rfl rfl (fun h3 => ?_) (fun h3 => ?_)
 ·
  refine xs (by kernel_rfl) ?_; refine rm rfl ?_; refine re_end rfl ?_; refine xp_ret rfl ?_
  refine blk_ret (thn_ret (done_ret (ress_tmp rfl rfl) ⟨hl.keep, congrArg (Value.int .i64) (one_1 h3).symm⟩))
 ·
  have k1 : 1 ≤ s.kind := by simp at h3; omega
  have k2 : s.kind ≤ 12 := by simp at h3; omega
  refine xp_seq rfl ?_; refine xp_draw (idx := [0, 2, 1, 3, 4]) rfl (by kernel_rfl) (by kernel_rfl) ?_; iterate 2 refine pk rfl (rd_load rfl rfl (loadN_of (z := 17) (by kernel_rfl) (by kernel_rfl) (hl.get 0 rfl) rfl)) ?_
  refine rp_callL hl rfl rfl rfl rfl rfl rfl rfl (spec114 s k1 k2) ?_; rintro v S1 hk1 rfl hl; refine ⟨stays_of ⟨stays_load (X := True) rfl rfl (loadN_of (z := 17) (by kernel_rfl) (by kernel_rfl) (hl.get 0 rfl) rfl) (same_agg rfl (atoms_sign s)) rfl trivial, stays_load (X := True) rfl rfl (loadN_of (z := 17) (by kernel_rfl) (by kernel_rfl) (hl.get 0 rfl) rfl) (same_agg rfl (atoms_sign s)) rfl trivial, trivial⟩, ?_⟩
  refine pr rfl (rd_bin rfl rfl rfl (neSign _ _ (keptS s (ub s.kind 0) (ub s.kind 1) (ub s.kind 2) (ub s.kind 3) (ub s.kind 4) (ub s.kind 5) (ub s.kind 6) (ub s.kind 7) (ub s.kind 8) (ub s.kind 9) (ub s.kind 10) (ub s.kind 11)) s)) ?_; refine pm rfl ?_; refine rp_end rfl ?_; refine xp_cond rfl rfl (fun h12 => ?_) (fun h12 => ?_)
  ·
   refine xs (by kernel_rfl) ?_; refine rm rfl ?_; refine re_end rfl ?_; refine xp_ret rfl ?_
   refine blk_ret (thn_ret (done_ret (ress_tmp rfl rfl) ⟨hl.keep, congrArg (Value.int .i64) (one_2 h3 h12).symm⟩))
  ·
   refine xp_seq rfl (xe_toL hl [(17, .bool (ub s.kind 7 && (mensE s.mx s.md s.tm s.pr != 0))), (1, ptrTo B1 0)] ?_ ?_)
   ·
    refine xg (by kernel_rfl) ?_; refine rr rfl (rd_fieldAddr rfl rfl (fa Tryz.underlying63 az63 rfl)) ?_; refine rr rfl (rl hl 0 rfl rfl (by kernel_rfl) rfl rfl) ?_; refine rr rfl (rd_bin rfl rfl rfl rfl) ?_; refine rm rfl ?_; refine re_bool (d := 21) rfl (fun h21 => ?_) (fun h21 => ?_)
    ·
     refine rr rfl (rd_fieldAddr rfl rfl (fa Tryz.underlying63 az63 rfl)) ?_; refine rr rfl (rd_load rfl rfl (loadN_of (z := 4) (by kernel_rfl) (by kernel_rfl) (hl.get 0 rfl) rfl)) ?_
     refine re_callL hl rfl rfl rfl rfl rfl rfl rfl (spec115 _ _ _ _) ?_; rintro v S1 hk1 rfl hl
     refine rr rfl (rd_bin rfl rfl rfl rfl) ?_; iterate 2 refine rm rfl ?_
     refine re_end rfl ?_
     exact ⟨rfl, ⟨bl (by rw [ub7 k1 k2]; simp only [h21, BLs]), rfl, trivial⟩, hl⟩
    ·
     iterate 4 refine rz rfl ?_
     iterate 2 refine rm rfl ?_
     refine re_end rfl ?_
     exact ⟨rfl, ⟨bl (by rw [ub7 k1 k2]; simp only [h21, BLs]), rfl, trivial⟩, hl⟩
   intro S1 hl
   refine xp_cond rfl rfl (fun h17 => ?_) (fun h17 => ?_)
   ·
    refine xs (by kernel_rfl) ?_; refine rm rfl ?_; refine re_end rfl ?_; refine xp_ret rfl ?_
    refine blk_ret (thn_ret (done_ret (ress_tmp rfl rfl) ⟨hl.keep, congrArg (Value.int .i64) (one_3 h3 h12 h17).symm⟩))
   ·
    refine xs (by kernel_rfl) ?_; refine rr rfl (rd_load rfl rfl (loadN_of (z := 17) (by kernel_rfl) (by kernel_rfl) (hl.get 0 rfl) rfl)) ?_
    refine re_callL hl rfl rfl rfl rfl rfl rfl rfl (spec116 s k1 k2) ?_; rintro v S1 hk1 rfl hl
    refine rr rfl (rd_un rfl rfl rfl) ?_; refine rm rfl ?_; refine re_end rfl ?_; refine xp_cond rfl rfl (fun h27 => ?_) (fun h27 => ?_)
    ·
     refine xs (by kernel_rfl) ?_; refine rm rfl ?_; refine re_end rfl ?_; refine xp_ret rfl ?_
     refine blk_ret (thn_ret (done_ret (ress_tmp rfl rfl) ⟨hl.keep, congrArg (Value.int .i64) (one_4 h3 h12 h17 h27).symm⟩))
    ·
     refine xp_seq rfl (xe_toL hl [(31, .bool (s.oblique && s.last)), (1, ptrTo B1 0)] ?_ ?_)
     ·
      refine xg (by kernel_rfl) ?_; refine rr rfl (rd_fieldAddr rfl rfl (fa Tryz.underlying63 az63 rfl)) ?_; refine rr rfl (rl hl 0 rfl rfl (by kernel_rfl) rfl rfl) ?_; refine rm rfl ?_; refine re_bool (d := 34) rfl (fun h34 => ?_) (fun h34 => ?_)
      ·
       refine rr rfl (rd_fieldAddr rfl rfl (fa Tryz.underlying63 az63 rfl)) ?_; refine rr rfl (rl hl 0 rfl rfl (by kernel_rfl) rfl rfl) ?_; iterate 2 refine rm rfl ?_
       refine re_end rfl ?_
       exact ⟨rfl, ⟨bl (by first | (simp [h34]; done) | (simp only [h34, BLs])), rfl, trivial⟩, hl⟩
      ·
       iterate 2 refine rz rfl ?_
       iterate 2 refine rm rfl ?_
       refine re_end rfl ?_
       exact ⟨rfl, ⟨bl (by first | (simp [h34]; done) | (simp only [h34, BLs])), rfl, trivial⟩, hl⟩
     intro S1 hl
     refine xp_cond rfl rfl (fun h31 => ?_) (fun h31 => ?_)
     ·
      refine xs (by kernel_rfl) ?_; refine rm rfl ?_; refine re_end rfl ?_; refine xp_ret rfl ?_
      refine blk_ret (thn_ret (done_ret (ress_tmp rfl rfl) ⟨hl.keep, congrArg (Value.int .i64) (one_5 h3 h12 h17 h27 h31).symm⟩))
     ·
      refine xp_skip rfl ?_; refine xs (by kernel_rfl) ?_; refine rm rfl ?_; refine re_end rfl ?_; refine xp_ret rfl ?_
      refine done_ret (ress_tmp rfl rfl) ⟨hl.keep, congrArg (Value.int .i64) (one_6 h3 h12 h17 h27 h31).symm⟩
theorem okc_ref (c : Int) : ((!(decide (97 ≤ c) && decide (c ≤ 122)) && !(decide (48 ≤ c) && decide (c ≤ 57))) && (c != 45)) = !okc c := by
 have e1 : decide (c < 97) = !decide (97 ≤ c) := by rw [Bool.eq_iff_iff]; simp
 have e2 : decide (c > 122) = !decide (c ≤ 122) := by rw [Bool.eq_iff_iff]; simp
 have e3 : decide (c < 48) = !decide (48 ≤ c) := by rw [Bool.eq_iff_iff]; simp
 have e4 : decide (c > 57) = !decide (c ≤ 57) := by rw [Bool.eq_iff_iff]; simp
 unfold okc
 rw [e1, e2, e3, e4, Bool.not_not]
 cases decide (97 ≤ c) <;> cases decide (c ≤ 122) <;> cases decide (48 ≤ c) <;> cases decide (c ≤ 57) <;> cases (c != 45) <;> rfl
theorem sameBytes_nil : ∀ l : List UInt8, sameBytes l [] = ((l.length : Int) == 0)
 | [] => rfl
 | a :: l => by
  show false = _
  symm
  simp
  omega
theorem nil_of {l : List UInt8} (h : (!sameBytes l []) = true) : ((l.length : Int) == 0) = false := by
 rw [sameBytes_nil] at h
 cases hb : ((l.length : Int) == 0) with
 | true => rw [hb] at h; cases h
 | false => rfl
theorem name_end {l : List UInt8} (h0 : ((l.length : Int) == 0) = false) (h1 : decide ((l.length : Int) ≤ 20) = true) (ha : (l.all fun c => okc c.toNat) = true) : (decide (97 ≤ hd0 l) && decide (hd0 l ≤ 122)) = nameF l := by
 have e1 : decide (hd0 l < 97) = !decide (97 ≤ hd0 l) := by rw [Bool.eq_iff_iff]; simp
 have e2 : decide (hd0 l > 122) = !decide (hd0 l ≤ 122) := by rw [Bool.eq_iff_iff]; simp
 have e3 : decide ((l.length : Int) > 20) = false := by have := of_decide_eq_true h1; rw [decide_eq_false_iff_not]; omega
 unfold nameF nameB
 rw [h0, e3, e1, e2, ha]
 cases decide (97 ≤ hd0 l) <;> cases decide (hd0 l ≤ 122) <;> rfl
theorem name_long {l : List UInt8} (h1 : decide ((l.length : Int) ≤ 20) = false) : false = nameF l := by
 have e3 : decide ((l.length : Int) > 20) = true := by have := of_decide_eq_false h1; rw [decide_eq_true_iff]; omega
 unfold nameF nameB
 rw [e3, Bool.or_true]
 rfl
theorem name_none {l : List UInt8} (h : (!sameBytes l []) = false) : false = nameF l := by
 rw [sameBytes_nil] at h
 have h0 : ((l.length : Int) == 0) = true := by cases hb : ((l.length : Int) == 0) with
  | true => rfl
  | false => rw [hb] at h; cases h
 unfold nameF nameB
 rw [h0]
 rfl
noncomputable def c87 : Code := Tryz.f87.body.getD .skip
theorem spec87 (s : ByteArray) (hlen : s.data.toList.length ≤ 9223372036854775807) : CC Tryz.prog KK 87 [.string s] S (fun v S' => Keep S S' ∧ v = .bool (nameF s.data.toList)) := by
 refine cc_enter (c := c87) (n := 40) Tryz.func87 rfl rfl rfl (by kernel_rfl) rfl rfl ?_
 have hl := Hold.start S
 refine xs (by kernel_rfl) ?_; refine rm rfl ?_; refine re_end rfl ?_; refine xp_seq rfl ?_; refine xs (by kernel_rfl) ?_; refine rm rfl ?_; refine re_end rfl ?_; refine xp_block rfl ?_
 -- LOOP
 refine xe_sub (L' := [(3, .int .i64 0), (0, .string s)]) ⟨rfl, rfl, trivial⟩ ?_
 refine xp_loop rfl (fun m Le S' => ∃ i : Nat, i ≤ s.data.toList.length ∧ m = s.data.toList.length - i ∧ SubE [(3, .int .i64 (i : Int)), (0, .string s)] Le ∧ (∀ j, j < i → ∀ c, nth s.data.toList j = some c → okc c.toNat = true) ∧ Hold S [S] S' []) ?_ (m := s.data.toList.length) ⟨0, by omega, rfl, ⟨rfl, rfl, trivial⟩, fun j hj => by omega, hl⟩
 clear hl; rintro m Le S' ⟨i, hi, rfl, hsub, hok, hl⟩; refine xe_sub hsub ?_
 refine xp_seq rfl ?_; refine xs (by kernel_rfl) ?_; iterate 2 refine rm rfl ?_
 refine rr rfl (rd_len rfl rfl (len_string Tryz.underlying9)) ?_; refine rr rfl (rd_bin rfl rfl rfl rfl) ?_; refine re_end rfl ?_; refine xp_cond rfl rfl (fun h7 => ?_) (fun h7 => ?_)
 ·
  have hlt : i < s.data.toList.length := by have := of_decide_eq_true h7; omega
  obtain ⟨c, hc⟩ := nth_some hlt
  refine xp_skip rfl ?_; refine xp_seq rfl ?_; refine xp_block rfl ?_; refine xp_seq rfl (xe_toL hl [(27, .bool (!okc c.toNat)), (3, .int .i64 (i : Int)), (0, .string s)] ?_ ?_)
  ·
   refine xg (by kernel_rfl) ?_; iterate 2 refine rm rfl ?_
   refine rr rfl (rd_index rfl rfl rfl (index_string Tryz.underlying9 (by omega) hc)) ?_
   refine re_callL hl rfl rfl rfl rfl rfl rfl rfl (spec112 _) ?_; rintro v S1 hk1 rfl hl
   refine rr rfl (rd_un rfl rfl rfl) ?_; refine rm rfl ?_; refine re_bool (d := 15) rfl (fun h15 => ?_) (fun h15 => ?_)
   ·
    iterate 2 refine rm rfl ?_
    refine rr rfl (rd_index rfl rfl rfl (index_string Tryz.underlying9 (by omega) hc)) ?_
    refine re_callL hl rfl rfl rfl rfl rfl rfl rfl (spec113 _) ?_; rintro v S1 hk1 rfl hl
    refine rr rfl (rd_un rfl rfl rfl) ?_; iterate 2 refine rm rfl ?_
    refine re_bool (d := 22) rfl (fun h22 => ?_) (fun h22 => ?_)
    ·
     iterate 2 refine rm rfl ?_
     refine rr rfl (rd_index rfl rfl rfl (index_string Tryz.underlying9 (by omega) hc)) ?_; refine rr rfl (rd_bin rfl rfl rfl rfl) ?_; refine rm rfl ?_; refine re_end rfl ?_
     exact ⟨rfl, ⟨bl (by rw [← okc_ref]; simp only [h22, h15, BLs]), rfl, rfl, trivial⟩, hl⟩
    ·
     iterate 4 refine rz rfl ?_
     refine rm rfl ?_; refine re_end rfl ?_
     exact ⟨rfl, ⟨bl (by rw [← okc_ref]; simp only [h22, h15, BLs]), rfl, rfl, trivial⟩, hl⟩
   ·
    iterate 5 refine rz rfl ?_
    iterate 2 refine rm rfl ?_
    iterate 4 refine rz rfl ?_
    refine rm rfl ?_; refine re_end rfl ?_
    exact ⟨rfl, ⟨bl (by rw [← okc_ref]; simp only [h15, BLs]), rfl, rfl, trivial⟩, hl⟩
  intro S1 hl
  refine xp_cond rfl rfl (fun h27 => ?_) (fun h27 => ?_)
  ·
   refine xs (by kernel_rfl) ?_; refine rm rfl ?_; refine re_end rfl ?_; refine xp_ret rfl ?_
   refine blk_ret (thn_ret (round_ret (blk_ret (thn_ret (done_ret (ress_tmp rfl rfl) ⟨hl.keep, congrArg Value.bool (by unfold nameF; rw [all_no hc (by simpa using h27), Bool.and_false])⟩)))))
  ·
   refine xp_skip rfl ?_; refine xg (by kernel_rfl) ?_; refine rm rfl ?_; refine rr rfl (rd_bin rfl rfl rfl rfl) ?_; refine rm rfl ?_; refine re_end rfl ?_
   refine ⟨s.data.toList.length - (i + 1), by omega, i + 1, by omega, rfl, ⟨congrArg some (congrArg (Value.int .i64) (IntWalk.i64_in _ (by omega))), rfl, trivial⟩, fun j hj y hy => ?_, hl⟩
   rcases Nat.lt_succ_iff_lt_or_eq.1 hj with hj | rfl
   ·exact hok j hj y hy
   ·rw [hc] at hy; cases hy; simpa using h27
 ·
  refine xp_exit rfl ?_; refine xs (by kernel_rfl) ?_; refine rm rfl ?_; refine rr rfl (rd_bin rfl rfl rfl rfl) ?_; refine rm rfl ?_; refine re_bool (d := 30) rfl (fun h30 => ?_) (fun h30 => ?_)
  ·
   refine rm rfl ?_; refine rr rfl (rd_len rfl rfl (len_string Tryz.underlying9)) ?_; refine rr rfl (rd_bin rfl rfl rfl rfl) ?_; iterate 2 refine rm rfl ?_
   refine re_bool (d := 35) rfl (fun h35 => ?_) (fun h35 => ?_)
   ·
    refine rm rfl ?_; refine rr rfl (rd_index rfl rfl rfl (index_string Tryz.underlying9 (Int.le_refl 0) (nth_hd (nil_of h30)))) ?_
    refine re_callL hl rfl rfl rfl rfl rfl rfl rfl (spec112 _) ?_; rintro v S1 hk1 rfl hl
    iterate 2 refine rm rfl ?_
    refine re_end rfl ?_; refine xp_ret rfl ?_
    refine done_ret (ress_tmp rfl rfl) ⟨hl.keep, congrArg Value.bool (name_end (nil_of h30) h35 (all_yes fun j hj c hc => hok j (by have := of_decide_eq_false h7; omega) c hc))⟩
   ·
    iterate 3 refine rz rfl ?_
    iterate 2 refine rm rfl ?_
    refine re_end rfl ?_; refine xp_ret rfl ?_
    refine done_ret (ress_tmp rfl rfl) ⟨hl.keep, congrArg Value.bool (name_long h35)⟩
  ·
   iterate 3 refine rz rfl ?_
   iterate 2 refine rm rfl ?_
   iterate 3 refine rz rfl ?_
   iterate 2 refine rm rfl ?_
   refine re_end rfl ?_; refine xp_ret rfl ?_
   refine done_ret (ress_tmp rfl rfl) ⟨hl.keep, congrArg Value.bool (name_none h30)⟩
end Go.Proofs.YtkmhecihkckcmaaGreatDoor
namespace Go.Proofs.YtkmhecihkckcmaaGreatDoor
open Go.Cm Go
set_option maxRecDepth 100000
variable {S : St}
def nextT : List Sg → Bool
 | [] => false
 | y :: _ => y.kind == 4
def runE : Bool → List Sg → Nat → Int × Int
 | _, [], _ => (0, 0)
 | b, s :: r, i => bif one s != 0 then (one s, i) else bif s.kind != 4 then runE b r (i + 1) else bif s.last && !b then (3, i) else bif s.last then runE false r (i + 1) else bif nextT r then runE true r (i + 1) else (3, i)
def partE (nm : List UInt8) (C : List Sg) : Int × Int := bif !nameF nm then (7, 0) else bif decide ((C.length : Int) > 400) then (11, 0) else runE false C 0
def openB (C : List Sg) (i : Nat) : Bool := match i with
 | 0 => false
 | j + 1 => match nth C j with
  | some s => (s.kind == 4) && !s.last
  | none => false
end Go.Proofs.YtkmhecihkckcmaaGreatDoor
namespace Go.Proofs.YtkmhecihkckcmaaGreatDoor
open Go.Cm Go
set_option maxRecDepth 100000
variable {S : St}
theorem runE_1 {b : Bool} {s : Sg} {r : List Sg} {i : Nat} (h : (one s != 0) = true) : runE b (s :: r) i = (one s, (i : Int)) := by
 rw [runE, h]; rfl
theorem runE_2 {b : Bool} {s : Sg} {r : List Sg} {i : Nat} (h : (one s != 0) = false) (h2 : (s.kind != 4) = true) : runE b (s :: r) i = runE b r (i + 1) := by
 rw [runE, h, h2]; rfl
theorem runE_3 {b : Bool} {s : Sg} {r : List Sg} {i : Nat} (h : (one s != 0) = false) (h2 : (s.kind != 4) = false) (h3 : (s.last && !b) = true) : runE b (s :: r) i = (3, (i : Int)) := by
 rw [runE, h, h2, h3]; rfl
theorem runE_4 {b : Bool} {s : Sg} {r : List Sg} {i : Nat} (h : (one s != 0) = false) (h2 : (s.kind != 4) = false) (h3 : (s.last && !b) = false) (h4 : s.last = true) : runE b (s :: r) i = runE false r (i + 1) := by
 rw [runE, h, h2, h3, h4]; rfl
theorem runE_5 {b : Bool} {s : Sg} {r : List Sg} {i : Nat} (h : (one s != 0) = false) (h2 : (s.kind != 4) = false) (h3 : (s.last && !b) = false) (h4 : s.last = false) (h5 : (!nextT r) = true) : runE b (s :: r) i = (3, (i : Int)) := by
 have h5' : nextT r = false := by simpa using h5
 rw [runE, h, h2, h3, h4, h5']; rfl
theorem runE_6 {b : Bool} {s : Sg} {r : List Sg} {i : Nat} (h : (one s != 0) = false) (h2 : (s.kind != 4) = false) (h3 : (s.last && !b) = false) (h4 : s.last = false) (h5 : (!nextT r) = false) : runE b (s :: r) i = runE true r (i + 1) := by
 have h5' : nextT r = true := by simpa using h5
 rw [runE, h, h2, h3, h4, h5']; rfl
theorem nextT_end {C : List Sg} {i : Nat} (h : C.length ≤ i) : nextT (C.drop i) = false := by rw [List.drop_eq_nil_of_le h]; rfl
theorem nextT_at {C : List Sg} {i : Nat} {s : Sg} (h : nth C i = some s) : nextT (C.drop i) = (s.kind == 4) := by rw [drop_nth' h]; rfl
noncomputable def c54 : Code := Tryz.f54.body.getD .skip
theorem spec54 (nm : ByteArray) (a : Option Addr) (cap : Nat) (C : List Sg) (hn : C.length ≤ 1000) (hG : Gl S) (hv : Signs S (.slice a C.length cap) C) : CC Tryz.prog KK 54 [aggL [.string nm, .slice a C.length cap]] S (fun v S' => Keep S S' ∧ v = tupV [.int .i64 (partE nm.data.toList C).1, .int .i64 (partE nm.data.toList C).2]) := by
 refine cc_enter (c := c54) (n := 67) Tryz.func54 rfl rfl rfl (by kernel_rfl) rfl rfl ?_
 have hl := Hold.start S
 refine xs (by kernel_rfl) ?_; refine re_boxL hl rfl rfl rfl rfl rfl rfl ?_; intro B1 S1 hl; iterate 2 refine rm rfl ?_
 refine re_end rfl ?_; refine xp_scope rfl ?_; refine xp_seq rfl ?_; refine xs (by kernel_rfl) ?_; refine rr rfl (rd_fieldAddr rfl rfl (fa Tryz.underlying24 az24 rfl)) ?_; refine rr rfl (rl hl 0 rfl rfl (by kernel_rfl) rfl rfl) ?_
 refine re_callL hl rfl rfl rfl rfl rfl rfl rfl (spec65 nm) ?_; rintro v S1 hk1 rfl hl
 refine rr rfl (rd_un rfl rfl rfl) ?_; refine re_end rfl ?_; refine xp_cond rfl rfl (fun h11 => ?_) (fun h11 => ?_)
 ·
  refine xs (by kernel_rfl) ?_; iterate 2 refine rm rfl ?_
  refine re_end rfl ?_; refine xp_ret rfl ?_
  refine thn_ret (scp_ret (done_ret (ress_tmp rfl (ress_tmp rfl rfl)) ⟨hl.keep, res2 (by unfold partE; rw [h11]; rfl)⟩))
 ·
  refine xp_skip rfl ?_; refine xp_seq rfl ?_; refine xs (by kernel_rfl) ?_; refine rr rfl (rd_fieldAddr rfl rfl (fa Tryz.underlying24 az24 rfl)) ?_; refine rr rfl (rl hl 0 rfl rfl (by kernel_rfl) rfl rfl) ?_; refine rr rfl (rd_len rfl rfl (len_slice Tryz.underlying22)) ?_; refine rr rfl (rd_bin rfl rfl rfl rfl) ?_; refine re_end rfl ?_; refine xp_cond rfl rfl (fun h15 => ?_) (fun h15 => ?_)
  ·
   refine xs (by kernel_rfl) ?_; iterate 2 refine rm rfl ?_
   refine re_end rfl ?_; refine xp_ret rfl ?_
   refine thn_ret (scp_ret (done_ret (ress_tmp rfl (ress_tmp rfl rfl)) ⟨hl.keep, res2 (by unfold partE; rw [h11, h15]; rfl)⟩))
  ·
   refine xp_skip rfl ?_; refine xs (by kernel_rfl) ?_; refine rm rfl ?_; refine re_end rfl ?_; refine xp_seq rfl ?_; refine xp_label rfl ?_; refine xp_seq rfl ?_; refine xs (by kernel_rfl) ?_; refine rr rfl (rd_fieldAddr rfl rfl (fa Tryz.underlying24 az24 rfl)) ?_; refine rr rfl (rl hl 0 rfl rfl (by kernel_rfl) rfl rfl) ?_; refine rr rfl (rd_len rfl rfl (len_slice Tryz.underlying22)) ?_; refine rm rfl ?_; refine re_end rfl ?_; refine xp_block rfl ?_
   -- LOOP
   have hck : partE nm.data.toList C = runE false C 0 := by unfold partE; rw [h11, h15]; rfl
   refine xe_sub (L' := [(4, .bool false), (19, .int .i64 0), (18, .int .i64 C.length), (1, ptrTo B1 0)]) ⟨rfl, rfl, rfl, rfl, trivial⟩ ?_
   refine xp_loop rfl (fun m Le S' => ∃ (i : Nat) (b : Bool), i ≤ C.length ∧ m = C.length - i ∧ SubE [(4, .bool b), (19, .int .i64 (i : Int)), (18, .int .i64 C.length), (1, ptrTo B1 0)] Le ∧ runE b (C.drop i) i = runE false C 0 ∧ Hold S [S] S' [(B1, .cells [.string nm, .slice a C.length cap] 24 false true [])]) ?_ (m := C.length) ⟨0, false, by omega, rfl, ⟨rfl, rfl, rfl, rfl, trivial⟩, rfl, hl⟩
   clear hl; rintro m Le S' ⟨i, b, hi, rfl, hsub, hin, hl⟩; refine xe_sub hsub ?_
   refine xs (by kernel_rfl) ?_; refine rr rfl (rd_bin rfl rfl rfl rfl) ?_; refine re_end rfl ?_; refine xp_seq rfl ?_; refine xp_cond rfl rfl (fun h20 => ?_) (fun h20 => ?_)
   ·
    have hlt : i < C.length := by have := of_decide_eq_true h20; omega
    obtain ⟨s, hs⟩ := nth_some hlt
    obtain ⟨b1, o1, cs1, ha, _, hrow, htk⟩ := hv.elem hs
    refine xp_skip rfl ?_; refine xp_seq rfl ?_; refine xp_block rfl ?_; refine xs (by kernel_rfl) ?_; iterate 2 refine rm rfl ?_
    refine re_end rfl ?_; refine xs (by kernel_rfl) ?_; refine rr rfl (rd_fieldAddr rfl rfl (fa Tryz.underlying24 az24 rfl)) ?_; refine rr rfl (rl hl 0 rfl rfl (by kernel_rfl) rfl rfl) ?_; refine rm rfl ?_; refine rr rfl (rd_indexAddr rfl rfl rfl (indexAddr_sl (z := 17) ha Tryz.underlying22 (by kernel_rfl) ⟨by omega, by omega⟩)) ?_; refine rr rfl (rd_load rfl rfl (loadN_row (z := 17) (by kernel_rfl) (by kernel_rfl) (row_move (hl.since 0 rfl) hrow) htk)) ?_
    refine re_allocL hl rfl rfl rfl rfl rfl (z := [.int .i64 0, .int .i64 0, .int .i64 0, .int .i64 0, .bool false, .int .i64 0, .bool false, .bool false, .int .i64 0, .int .i64 0, .int .i64 0, .int .i64 0, .bool false, .int .i64 0, .int .i64 0, .int .i64 0, .int .i64 0]) (by kernel_rfl) ?_; intro B6 S6 hl; refine re_storeL hl 0 rfl rfl rfl rfl rfl rfl rfl (by kernel_rfl) rfl ?_; intro S1 hl; refine re_end rfl ?_; refine xp_seq rfl ?_; refine xs (by kernel_rfl) ?_; refine rr rfl (rd_load rfl rfl (loadN_of (z := 17) (by kernel_rfl) (by kernel_rfl) (hl.get 0 rfl) rfl)) ?_
    refine re_callL hl rfl rfl rfl rfl rfl rfl rfl (spec66 s (hG.keep hl.keep)) ?_; rintro v S1 hk1 rfl hl
    refine rm rfl ?_; refine re_end rfl ?_; refine xs (by kernel_rfl) ?_; refine rm rfl ?_; refine rr rfl (rd_bin rfl rfl rfl rfl) ?_; refine re_end rfl ?_; refine xp_cond rfl rfl (fun h30 => ?_) (fun h30 => ?_)
    ·
     refine xs (by kernel_rfl) ?_; iterate 4 refine rm rfl ?_
     refine re_end rfl ?_; refine xp_ret rfl ?_
     refine thn_ret (blk_ret (thn_ret (round_ret (blk_ret (thn_ret (scp_ret (done_ret (ress_tmp rfl (ress_tmp rfl rfl)) ⟨hl.keep, res2 (by rw [hck, ← hin, drop_nth' hs, runE_1 h30])⟩)))))))
    ·
     refine xp_skip rfl ?_; refine xp_seq rfl ?_; refine xp_block rfl ?_; refine xs (by kernel_rfl) ?_; refine rr rfl (rd_fieldAddr rfl rfl (fa Tryz.underlying63 az63 rfl)) ?_; refine rr rfl (rl hl 0 rfl rfl (by kernel_rfl) rfl rfl) ?_; refine rr rfl (rd_bin rfl rfl rfl rfl) ?_; refine rm rfl ?_; refine re_end rfl ?_; refine xp_cond rfl rfl (fun h33 => ?_) (fun h33 => ?_)
     ·
      refine xp_exit rfl ?_; refine xg (by kernel_rfl) ?_; refine rr rfl (rd_bin rfl rfl rfl rfl) ?_; refine rm rfl ?_; refine re_end rfl ?_
      exact ⟨C.length - (i + 1), by omega, i + 1, b, by omega, rfl, ⟨rfl, congrArg some (congrArg (Value.int .i64) (IntWalk.i64_in _ (by omega))), rfl, rfl, trivial⟩, by rw [← runE_2 h30 h33, ← drop_nth' hs]; exact hin, hl.tail⟩
     ·
      refine xp_seq rfl (xe_toE hl 37 (.bool (s.last && !b)) ?_ rfl ?_)
      ·
       refine xg (by kernel_rfl) ?_; refine rr rfl (rd_fieldAddr rfl rfl (fa Tryz.underlying63 az63 rfl)) ?_; refine rr rfl (rl hl 0 rfl rfl (by kernel_rfl) rfl rfl) ?_; refine rm rfl ?_; refine re_bool (d := 40) rfl (fun h40 => ?_) (fun h40 => ?_)
       ·
        refine rm rfl ?_; refine rr rfl (rd_un rfl rfl rfl) ?_; iterate 2 refine rm rfl ?_
        refine re_end rfl ?_
        exact ⟨rfl, bl (by first | (simp [h40]; done) | (simp only [h40, BLs])), by repeat (first | exact subL_refl _ | refine subL_skip rfl ?_), hl⟩
       ·
        iterate 2 refine rz rfl ?_
        iterate 2 refine rm rfl ?_
        refine re_end rfl ?_
        exact ⟨rfl, bl (by first | (simp [h40]; done) | (simp only [h40, BLs])), by repeat (first | exact subL_refl _ | refine subL_skip rfl ?_), hl⟩
      intro S1 hl
      refine xp_cond rfl rfl (fun h37 => ?_) (fun h37 => ?_)
      ·
       refine xs (by kernel_rfl) ?_; iterate 3 refine rm rfl ?_
       refine re_end rfl ?_; refine xp_ret rfl ?_
       refine blk_ret (thn_ret (blk_ret (thn_ret (round_ret (blk_ret (thn_ret (scp_ret (done_ret (ress_tmp rfl (ress_tmp rfl rfl)) ⟨hl.keep, res2 (by rw [hck, ← hin, drop_nth' hs, runE_3 h30 h33 h37])⟩))))))))
      ·
       refine xs (by kernel_rfl) ?_; refine rr rfl (rd_fieldAddr rfl rfl (fa Tryz.underlying63 az63 rfl)) ?_; refine rr rfl (rl hl 0 rfl rfl (by kernel_rfl) rfl rfl) ?_; refine rm rfl ?_; refine re_end rfl ?_; refine xp_cond rfl rfl (fun h45 => ?_) (fun h45 => ?_)
       ·
        refine xs (by kernel_rfl) ?_; refine rm rfl ?_; refine re_end rfl ?_; refine xp_exit rfl ?_; refine xg (by kernel_rfl) ?_; refine rr rfl (rd_bin rfl rfl rfl rfl) ?_; refine rm rfl ?_; refine re_end rfl ?_
        exact ⟨C.length - (i + 1), by omega, i + 1, false, by omega, rfl, ⟨rfl, congrArg some (congrArg (Value.int .i64) (IntWalk.i64_in _ (by omega))), rfl, rfl, trivial⟩, by rw [← runE_4 h30 h33 h37 h45, ← drop_nth' hs]; exact hin, hl.tail⟩
       ·
        refine xp_seq rfl (xe_toE hl 48 (.bool (!nextT (C.drop (i + 1)))) ?_ rfl ?_)
        ·
         refine xg (by kernel_rfl) ?_; refine rm rfl ?_; refine rr rfl (rd_bin rfl rfl rfl (i6 (by omega))) ?_; refine rr rfl (rd_fieldAddr rfl rfl (fa Tryz.underlying24 az24 rfl)) ?_; refine rr rfl (rl hl 1 rfl rfl (by kernel_rfl) rfl rfl) ?_; refine rr rfl (rd_len rfl rfl (len_slice Tryz.underlying22)) ?_; refine rr rfl (rd_bin rfl rfl rfl rfl) ?_; refine rm rfl ?_; refine re_bool (d := 55) rfl (fun h55 => ?_) (fun h55 => ?_)
         ·
          iterate 8 refine rz rfl ?_
          iterate 2 refine rm rfl ?_
          refine re_end rfl ?_
          exact ⟨rfl, bl (by rw [nextT_end (by have h := (by simpa using h55 : (i : Int) + 1 = C.length); omega)]; rfl), by repeat (first | exact subL_refl _ | refine subL_skip rfl ?_), hl⟩
         ·
          refine rr rfl (rd_fieldAddr rfl rfl (fa Tryz.underlying24 az24 rfl)) ?_; refine rr rfl (rl hl 1 rfl rfl (by kernel_rfl) rfl rfl) ?_; refine rm rfl ?_; refine rr rfl (rd_bin rfl rfl rfl (i6 (by omega))) ?_
          have hlt2 : i + 1 < C.length := by have h := (by simpa using h55 : ¬ ((i : Int) + 1 = C.length)); omega
          obtain ⟨s2, hs2⟩ := nth_some hlt2
          obtain ⟨b2, o2, cs2, ha2, _, hrow2, htk2⟩ := hv.elem hs2
          refine rr rfl (rd_indexAddr rfl rfl rfl (indexAddr_sl (z := 17) ha2 Tryz.underlying22 (by kernel_rfl) ⟨by omega, by omega⟩)) ?_; refine rr rfl (rd_fieldAddr rfl rfl (fa Tryz.underlying63 az63 rfl)) ?_; refine rr rfl (rd_load rfl rfl (load1_row (by kernel_rfl) (row_move (hl.since 0 rfl) hrow2) (tk_nth htk2 rfl))) ?_; refine rr rfl (rd_bin rfl rfl rfl rfl) ?_; iterate 2 refine rm rfl ?_
          refine re_end rfl ?_
          exact ⟨rfl, bl (by rw [nextT_at hs2]; rfl), by repeat (first | exact subL_refl _ | refine subL_skip rfl ?_), hl⟩
        intro S1 hl
        refine xp_cond rfl rfl (fun h48 => ?_) (fun h48 => ?_)
        ·
         refine xs (by kernel_rfl) ?_; iterate 3 refine rm rfl ?_
         refine re_end rfl ?_; refine xp_ret rfl ?_
         refine blk_ret (thn_ret (blk_ret (thn_ret (round_ret (blk_ret (thn_ret (scp_ret (done_ret (ress_tmp rfl (ress_tmp rfl rfl)) ⟨hl.keep, res2 (by rw [hck, ← hin, drop_nth' hs, runE_5 h30 h33 h37 h45 h48])⟩))))))))
        ·
         refine xp_skip rfl ?_; refine xg (by kernel_rfl) ?_; refine rm rfl ?_; refine re_end rfl ?_; refine xg (by kernel_rfl) ?_; refine rr rfl (rd_bin rfl rfl rfl rfl) ?_; refine rm rfl ?_; refine re_end rfl ?_
         exact ⟨C.length - (i + 1), by omega, i + 1, true, by omega, rfl, ⟨rfl, congrArg some (congrArg (Value.int .i64) (IntWalk.i64_in _ (by omega))), rfl, rfl, trivial⟩, by rw [← runE_6 h30 h33 h37 h45 h48, ← drop_nth' hs]; exact hin, hl.tail⟩
   ·
    refine xp_exit rfl ?_; refine xs (by kernel_rfl) ?_; iterate 2 refine rm rfl ?_
    refine re_end rfl ?_; refine xp_ret rfl ?_
    refine scp_ret (done_ret (ress_tmp rfl (ress_tmp rfl rfl)) ⟨hl.keep, res2 (by rw [hck, ← hin, List.drop_eq_nil_of_le (by have := of_decide_eq_false h20; omega)]; rfl)⟩)
end Go.Proofs.YtkmhecihkckcmaaGreatDoor
namespace Go.Proofs.YtkmhecihkckcmaaGreatDoor
open Go.Cm Go
set_option maxRecDepth 100000
variable {S : St}
def tiedI (C : List Sg) (i : Int) : Bool := (decide (i ≥ 0) && decide (i < C.length)) && (match nth C i.toNat with
 | some s => s.kind == 4
 | none => false)
theorem nth_none {α : Type} : ∀ {l : List α} {i : Nat}, l.length ≤ i → nth l i = none
 | [], i, _ => by cases i <;> rfl
 | _ :: l, 0, h => by simp at h
 | _ :: l, i + 1, h => nth_none (l := l) (i := i) (by simpa using h)
theorem nextT_nth (C : List Sg) (i : Nat) : nextT (C.drop i) = (match nth C i with
 | some s => s.kind == 4
 | none => false) := by
 by_cases h : i < C.length
 ·obtain ⟨s, hs⟩ := nth_some h
  rw [nextT_at hs, hs]
 ·rw [nextT_end (by omega), nth_none (by omega)]
theorem tied_next (C : List Sg) (i : Nat) : tiedI C ((i : Int) + 1) = nextT (C.drop (i + 1)) := by
 unfold tiedI
 rw [show ((i : Int) + 1).toNat = i + 1 from rfl, nextT_nth]
 by_cases h : i + 1 < C.length
 ·have h2 : decide ((i : Int) + 1 < C.length) = true := by rw [decide_eq_true_iff]; omega
  have h1 : decide ((i : Int) + 1 ≥ 0) = true := by rw [decide_eq_true_iff]; omega
  rw [h1, h2]; rfl
 ·have h2 : decide ((i : Int) + 1 < C.length) = false := by rw [decide_eq_false_iff_not]; omega
  rw [h2, nth_none (by omega), Bool.and_false]
theorem tied_prev {C : List Sg} {i : Nat} (h : (!tiedI C ((i : Int) - 1)) = false) : ∃ j, i = j + 1 ∧ ∃ s, nth C j = some s ∧ s.kind = 4 := by
 unfold tiedI at h
 simp only [Bool.not_eq_false', Bool.and_eq_true, decide_eq_true_iff] at h
 obtain ⟨⟨h1, h2⟩, h3⟩ := h
 refine ⟨i - 1, by omega, ?_⟩
 rw [show ((i : Int) - 1).toNat = i - 1 by omega] at h3
 split at h3
 ·rename_i s hs
  exact ⟨s, hs, by simpa using h3⟩
 ·cases h3
theorem open_no {C : List Sg} {i : Nat} (h : (!tiedI C ((i : Int) - 1)) = true) : openB C i = false := by
 cases i with
 | zero => rfl
 | succ j =>
  unfold tiedI at h
  rw [show (((j + 1 : Nat) : Int) - 1) = (j : Int) by omega, show ((j : Int)).toNat = j from rfl] at h
  show (match nth C j with
   | some s => (s.kind == 4) && !s.last
   | none => false) = false
  cases hs : nth C j with
  | none => rfl
  | some s =>
   rw [hs] at h
   have h2 : decide ((j : Int) < C.length) = true := by rw [decide_eq_true_iff]; have := nth_lt hs; omega
   have h1 : decide ((j : Int) ≥ 0) = true := by rw [decide_eq_true_iff]; omega
   rw [h1, h2] at h
   have h' : (s.kind == 4) = false := by simpa using h
   simp only [h', Bool.false_and]
theorem open_at {C : List Sg} {j : Nat} {s : Sg} (h : nth C j = some s) : openB C (j + 1) = ((s.kind == 4) && !s.last) := by
 show (match nth C j with
  | some s => (s.kind == 4) && !s.last
  | none => false) = _
 rw [h]
theorem open_last {C : List Sg} {j : Nat} {s : Sg} (h : nth C j = some s) (hk : s.kind = 4) : s.last = !openB C (j + 1) := by
 rw [open_at h, hk]; cases s.last <;> rfl
def OpenOk (C : List Sg) (i : Nat) : Prop := openB C i = true → ∃ s, nth C i = some s ∧ s.kind = 4
theorem refE_skip {C : List Sg} {i : Nat} {s : Sg} {R : Int × Int} (hs : nth C i = some s) (h1 : (one s != 0) = false) (h2 : (s.kind != 4) = true) (ho : OpenOk C i) (hin : runE (openB C i) (C.drop i) i = R) : runE (openB C (i + 1)) (C.drop (i + 1)) (i + 1) = R ∧ OpenOk C (i + 1) := by
 have h0 : openB C i = false := by
  cases h : openB C i with
  | false => rfl
  | true =>
   obtain ⟨s2, e1, e2⟩ := ho h
   rw [hs] at e1
   cases e1
   rw [e2] at h2
   cases h2
 have h3 : openB C (i + 1) = false := by
  rw [open_at hs]
  have : (s.kind == 4) = false := by simpa using h2
  rw [this]; rfl
 rw [h0, drop_nth' hs, runE_2 h1 h2] at hin
 rw [h3]
 exact ⟨hin, fun h => by rw [h3] at h; cases h⟩
theorem refE_bad {C : List Sg} {i : Nat} {s : Sg} (hs : nth C i = some s) (h1 : (one s != 0) = false) (h2 : (s.kind != 4) = false) (h3 : ((!openB C i && s.last) || (!s.last && !nextT (C.drop (i + 1)))) = true) : runE (openB C i) (C.drop i) i = (3, (i : Int)) := by
 rw [drop_nth' hs]
 cases hl : s.last with
 | true => exact runE_3 h1 h2 (by rw [hl] at h3 ⊢; simpa using h3)
 | false => exact runE_5 h1 h2 (by rw [hl]; rfl) hl (by rw [hl] at h3; simpa using h3)
theorem refE_go {C : List Sg} {i : Nat} {s : Sg} {R : Int × Int} (hs : nth C i = some s) (h1 : (one s != 0) = false) (h2 : (s.kind != 4) = false) (h3 : ((!openB C i && s.last) || (!s.last && !nextT (C.drop (i + 1)))) = false) (hin : runE (openB C i) (C.drop i) i = R) : runE (openB C (i + 1)) (C.drop (i + 1)) (i + 1) = R ∧ OpenOk C (i + 1) := by
 rw [drop_nth' hs] at hin
 have hk : (s.kind == 4) = true := by simpa using h2
 cases hl : s.last with
 | true =>
  rw [runE_4 h1 h2 (by rw [hl] at h3 ⊢; simpa using h3) hl] at hin
  have h4 : openB C (i + 1) = false := by rw [open_at hs, hl, Bool.not_true, Bool.and_false]
  rw [h4]
  exact ⟨hin, fun h => by rw [h4] at h; cases h⟩
 | false =>
  have h5 : nextT (C.drop (i + 1)) = true := by rw [hl] at h3; simpa using h3
  rw [runE_6 h1 h2 (by rw [hl]; rfl) hl (by rw [h5]; rfl)] at hin
  have h4 : openB C (i + 1) = true := by rw [open_at hs, hl, hk]; rfl
  rw [h4]
  refine ⟨hin, fun _ => ?_⟩
  rw [nextT_nth] at h5
  split at h5
  ·rename_i s2 hs2
   exact ⟨s2, hs2, by simpa using h5⟩
  ·cases h5
noncomputable def c70 : Code := Tryz.f70.body.getD .skip
theorem spec70 (a : Option Addr) (cap : Nat) (C : List Sg) (i : Int) (hv : Signs S (.slice a C.length cap) C) : CC Tryz.prog KK 70 [.slice a C.length cap, .int .i64 i] S (fun v S' => Keep S S' ∧ v = .bool (tiedI C i)) := by
 refine cc_enter (c := c70) (n := 21) Tryz.func70 rfl rfl rfl (by kernel_rfl) rfl rfl ?_
 have hl := Hold.start S
 refine xs (by kernel_rfl) ?_; refine rm rfl ?_; refine re_end rfl ?_; refine xe_sub (L' := [(1, .int .i64 i), (0, .slice a C.length cap)]) ⟨rfl, rfl, trivial⟩ ?_; refine xp_seq rfl (xe_toE hl 4 (.bool (tiedI C i)) ?_ rfl ?_)
 ·
  refine xg (by kernel_rfl) ?_; refine rm rfl ?_; refine rr rfl (rd_bin rfl rfl rfl rfl) ?_; refine rm rfl ?_; refine re_bool (d := 7) rfl (fun h7 => ?_) (fun h7 => ?_)
  ·
   iterate 2 refine rm rfl ?_
   refine rr rfl (rd_len rfl rfl (len_slice Tryz.underlying22)) ?_; refine rr rfl (rd_bin rfl rfl rfl rfl) ?_; iterate 2 refine rm rfl ?_
   refine re_bool (d := 13) rfl (fun h13 => ?_) (fun h13 => ?_)
   ·
    iterate 2 refine rm rfl ?_
    have h0 : 0 ≤ i := of_decide_eq_true h7
    have hlt : i.toNat < C.length := by have := of_decide_eq_true h13; omega
    obtain ⟨s, hs⟩ := nth_some hlt
    obtain ⟨b1, o1, cs1, ha, _, hrow, htk⟩ := hv.elem hs
    refine rr rfl (rd_indexAddr rfl rfl rfl (indexAddr_sl (z := 17) ha Tryz.underlying22 (by kernel_rfl) ⟨h0, of_decide_eq_true h13⟩)) ?_; refine rr rfl (rd_fieldAddr rfl rfl (fa Tryz.underlying63 az63 rfl)) ?_; refine rr rfl (rd_load rfl rfl (load1_row (by kernel_rfl) (row_move (hl.since 0 rfl) hrow) (tk_nth htk rfl))) ?_; refine rr rfl (rd_bin rfl rfl rfl rfl) ?_; iterate 2 refine rm rfl ?_
    refine re_end rfl ?_
    exact ⟨rfl, bl (by unfold tiedI; rw [h7, h13, hs]; rfl), by repeat (first | exact subL_refl _ | refine subL_skip rfl ?_), hl⟩
   ·
    iterate 6 refine rz rfl ?_
    iterate 2 refine rm rfl ?_
    refine re_end rfl ?_
    exact ⟨rfl, bl (by unfold tiedI; rw [h7, h13]; rfl), by repeat (first | exact subL_refl _ | refine subL_skip rfl ?_), hl⟩
  ·
   iterate 4 refine rz rfl ?_
   iterate 2 refine rm rfl ?_
   iterate 6 refine rz rfl ?_
   iterate 2 refine rm rfl ?_
   refine re_end rfl ?_
   exact ⟨rfl, bl (by unfold tiedI; rw [h7]; rfl), by repeat (first | exact subL_refl _ | refine subL_skip rfl ?_), hl⟩
 intro S1 hl
 refine xp_ret rfl ?_
 refine done_ret (ress_tmp rfl rfl) ⟨hl.keep, rfl⟩
noncomputable def c69 : Code := Tryz.f69.body.getD .skip
theorem spec69 (nm : ByteArray) (a : Option Addr) (cap : Nat) (C : List Sg) (hnm : nm.data.toList.length ≤ 9223372036854775807) (hn : C.length ≤ 1000) (hv : Signs S (.slice a C.length cap) C) : CC Tryz.prog KK 69 [aggL [.string nm, .slice a C.length cap]] S (fun v S' => Keep S S' ∧ v = tupV [.int .i64 (partE nm.data.toList C).1, .int .i64 (partE nm.data.toList C).2]) := by
 refine cc_enter (c := c69) (n := 71) Tryz.func69 rfl rfl rfl (by kernel_rfl) rfl rfl ?_
 have hl := Hold.start S
 refine xs (by kernel_rfl) ?_; refine re_boxL hl rfl rfl rfl rfl rfl rfl ?_; intro B1 S1 hl; iterate 2 refine rm rfl ?_
 refine re_end rfl ?_; refine xp_seq rfl ?_; refine xs (by kernel_rfl) ?_; refine rr rfl (rd_fieldAddr rfl rfl (fa Tryz.underlying24 az24 rfl)) ?_; refine rr rfl (rl hl 0 rfl rfl (by kernel_rfl) rfl rfl) ?_
 refine re_callL hl rfl rfl rfl rfl rfl rfl rfl (spec87 nm hnm) ?_; rintro v S1 hk1 rfl hl
 refine rr rfl (rd_un rfl rfl rfl) ?_; refine re_end rfl ?_; refine xp_cond rfl rfl (fun h11 => ?_) (fun h11 => ?_)
 ·
  refine xs (by kernel_rfl) ?_; iterate 2 refine rm rfl ?_
  refine re_end rfl ?_; refine xp_ret rfl ?_
  refine thn_ret (done_ret (ress_tmp rfl (ress_tmp rfl rfl)) ⟨hl.keep, res2 (by unfold partE; rw [h11]; rfl)⟩)
 ·
  refine xp_skip rfl ?_; refine xp_seq rfl ?_; refine xs (by kernel_rfl) ?_; refine rr rfl (rd_fieldAddr rfl rfl (fa Tryz.underlying24 az24 rfl)) ?_; refine rr rfl (rl hl 0 rfl rfl (by kernel_rfl) rfl rfl) ?_; refine rr rfl (rd_len rfl rfl (len_slice Tryz.underlying22)) ?_; refine rr rfl (rd_bin rfl rfl rfl rfl) ?_; refine re_end rfl ?_; refine xp_cond rfl rfl (fun h15 => ?_) (fun h15 => ?_)
  ·
   refine xs (by kernel_rfl) ?_; iterate 2 refine rm rfl ?_
   refine re_end rfl ?_; refine xp_ret rfl ?_
   refine thn_ret (done_ret (ress_tmp rfl (ress_tmp rfl rfl)) ⟨hl.keep, res2 (by unfold partE; rw [h11, h15]; rfl)⟩)
  ·
   refine xp_skip rfl ?_; refine xp_seq rfl ?_; refine xs (by kernel_rfl) ?_; refine rm rfl ?_; refine re_end rfl ?_; refine xp_block rfl ?_
   -- LOOP
   have hck : partE nm.data.toList C = runE false C 0 := by unfold partE; rw [h11, h15]; rfl
   refine xe_sub (L' := [(4, .int .i64 0), (1, ptrTo B1 0)]) ⟨rfl, rfl, trivial⟩ ?_
   refine xp_loop rfl (fun m Le S' => ∃ i : Nat, i ≤ C.length ∧ m = C.length - i ∧ SubE [(4, .int .i64 (i : Int)), (1, ptrTo B1 0)] Le ∧ runE (openB C i) (C.drop i) i = runE false C 0 ∧ OpenOk C i ∧ Hold S [S] S' [(B1, .cells [.string nm, .slice a C.length cap] 24 false true [])]) ?_ (m := C.length) ⟨0, by omega, rfl, ⟨rfl, rfl, trivial⟩, rfl, (fun h => by cases h), hl⟩
   clear hl; rintro m Le S' ⟨i, hi, rfl, hsub, hin, hok, hl⟩; refine xe_sub hsub ?_
   refine xp_seq rfl ?_; refine xs (by kernel_rfl) ?_; refine rm rfl ?_; refine rr rfl (rd_fieldAddr rfl rfl (fa Tryz.underlying24 az24 rfl)) ?_; refine rr rfl (rl hl 0 rfl rfl (by kernel_rfl) rfl rfl) ?_; refine rr rfl (rd_len rfl rfl (len_slice Tryz.underlying22)) ?_; refine rr rfl (rd_bin rfl rfl rfl rfl) ?_; refine re_end rfl ?_; refine xp_cond rfl rfl (fun h20 => ?_) (fun h20 => ?_)
   ·
    have hlt : i < C.length := by have := of_decide_eq_true h20; omega
    obtain ⟨s, hs⟩ := nth_some hlt
    obtain ⟨b1, o1, cs1, ha, _, hrow, htk⟩ := hv.elem hs
    refine xp_skip rfl ?_; refine xp_seq rfl ?_; refine xp_block rfl ?_; refine xs (by kernel_rfl) ?_; refine rr rfl (rd_fieldAddr rfl rfl (fa Tryz.underlying24 az24 rfl)) ?_; refine rr rfl (rl hl 0 rfl rfl (by kernel_rfl) rfl rfl) ?_; refine rm rfl ?_; refine rr rfl (rd_indexAddr rfl rfl rfl (indexAddr_sl (z := 17) ha Tryz.underlying22 (by kernel_rfl) ⟨by omega, by omega⟩)) ?_; refine rr rfl (rd_load rfl rfl (loadN_row (z := 17) (by kernel_rfl) (by kernel_rfl) (row_move (hl.since 0 rfl) hrow) htk)) ?_
    refine re_allocL hl rfl rfl rfl rfl rfl (z := [.int .i64 0, .int .i64 0, .int .i64 0, .int .i64 0, .bool false, .int .i64 0, .bool false, .bool false, .int .i64 0, .int .i64 0, .int .i64 0, .int .i64 0, .bool false, .int .i64 0, .int .i64 0, .int .i64 0, .int .i64 0]) (by kernel_rfl) ?_; intro B5 S5 hl; refine re_storeL hl 0 rfl rfl rfl rfl rfl rfl rfl (by kernel_rfl) rfl ?_; intro S1 hl; refine re_end rfl ?_; refine xp_seq rfl ?_; refine xs (by kernel_rfl) ?_; refine rr rfl (rd_load rfl rfl (loadN_of (z := 17) (by kernel_rfl) (by kernel_rfl) (hl.get 0 rfl) rfl)) ?_
    refine re_callL hl rfl rfl rfl rfl rfl rfl rfl (spec88 s) ?_; rintro v S1 hk1 rfl hl
    refine rm rfl ?_; refine re_end rfl ?_; refine xs (by kernel_rfl) ?_; refine rm rfl ?_; refine rr rfl (rd_bin rfl rfl rfl rfl) ?_; refine re_end rfl ?_; refine xp_cond rfl rfl (fun h31 => ?_) (fun h31 => ?_)
    ·
     refine xs (by kernel_rfl) ?_; iterate 4 refine rm rfl ?_
     refine re_end rfl ?_; refine xp_ret rfl ?_
     refine thn_ret (blk_ret (thn_ret (round_ret (blk_ret (thn_ret (done_ret (ress_tmp rfl (ress_tmp rfl rfl)) ⟨hl.keep, res2 (by rw [hck, ← hin, drop_nth' hs, runE_1 h31])⟩))))))
    ·
     refine xp_skip rfl ?_; refine xp_seq rfl ?_; refine xs (by kernel_rfl) ?_; refine rr rfl (rd_fieldAddr rfl rfl (fa Tryz.underlying63 az63 rfl)) ?_; refine rr rfl (rl hl 0 rfl rfl (by kernel_rfl) rfl rfl) ?_; refine rr rfl (rd_bin rfl rfl rfl rfl) ?_; refine re_end rfl ?_; refine xp_cond rfl rfl (fun h36 => ?_) (fun h36 => ?_)
     ·
      refine xp_exit rfl ?_; refine xg (by kernel_rfl) ?_; refine rm rfl ?_; refine rr rfl (rd_bin rfl rfl rfl rfl) ?_; refine rm rfl ?_; refine re_end rfl ?_
      exact ⟨C.length - (i + 1), by omega, i + 1, by omega, rfl, ⟨congrArg some (congrArg (Value.int .i64) (IntWalk.i64_in _ (by omega))), rfl, trivial⟩, (refE_skip hs h31 h36 hok hin).1, (refE_skip hs h31 h36 hok hin).2, hl.tail⟩
     ·
      refine xp_skip rfl ?_; refine xp_seq rfl (xe_toE hl 7 (.bool (!openB C i)) ?_ rfl ?_)
      ·
       refine xg (by kernel_rfl) ?_; refine rr rfl (rd_fieldAddr rfl rfl (fa Tryz.underlying24 az24 rfl)) ?_; refine rr rfl (rl hl 1 rfl rfl (by kernel_rfl) rfl rfl) ?_; refine rm rfl ?_; refine rr rfl (rd_bin rfl rfl rfl (i6 (by omega))) ?_
       refine re_callL hl rfl rfl rfl rfl rfl rfl rfl (spec70 a cap C ((i : Int) - 1) (hv.move (hl.since 0 rfl))) ?_; rintro v S1 hk1 rfl hl
       refine rr rfl (rd_un rfl rfl rfl) ?_; refine rm rfl ?_; refine re_bool (d := 43) rfl (fun h43 => ?_) (fun h43 => ?_)
       ·
        iterate 7 refine rz rfl ?_
        iterate 2 refine rm rfl ?_
        refine re_end rfl ?_
        exact ⟨rfl, bl (by rw [open_no h43]; rfl), by repeat (first | exact subL_refl _ | refine subL_skip rfl ?_), hl⟩
       ·
        obtain ⟨j, rfl, s1, hs1, hk1⟩ := tied_prev h43
        obtain ⟨b3, o3, cs3, ha3, _, hrow3, htk3⟩ := hv.elem hs1
        refine rr rfl (rd_fieldAddr rfl rfl (fa Tryz.underlying24 az24 rfl)) ?_; refine rr rfl (rl hl 1 rfl rfl (by kernel_rfl) rfl rfl) ?_; refine rm rfl ?_; refine rr rfl (rd_bin rfl rfl rfl (congrArg some (congrArg (Value.int .i64) ((IntWalk.i64_in _ (by omega)).trans (show (((j + 1 : Nat) : Int) - 1) = (j : Int) by omega))))) ?_; refine rr rfl (rd_indexAddr rfl rfl rfl (indexAddr_sl (z := 17) ha3 Tryz.underlying22 (by kernel_rfl) ⟨by omega, by omega⟩)) ?_; refine rr rfl (rd_fieldAddr rfl rfl (fa Tryz.underlying63 az63 rfl)) ?_
        refine rr rfl (rd_load rfl rfl (load1_row (by kernel_rfl) (row_move (hl.since 0 rfl) hrow3) (tk_nth htk3 rfl))) ?_; iterate 2 refine rm rfl ?_
        refine re_end rfl ?_
        exact ⟨rfl, bl (open_last hs1 hk1), by repeat (first | exact subL_refl _ | refine subL_skip rfl ?_), hl⟩
      intro S1 hl
      refine xp_seq rfl (xe_toE hl 69 (.bool ((!openB C i && s.last) || (!s.last && !nextT (C.drop (i + 1))))) ?_ rfl ?_)
      ·
       refine xg (by kernel_rfl) ?_; iterate 2 refine rm rfl ?_
       refine re_bool (d := 53) rfl (fun h53 => ?_) (fun h53 => ?_)
       ·
        refine rr rfl (rd_fieldAddr rfl rfl (fa Tryz.underlying63 az63 rfl)) ?_; refine rr rfl (rl hl 0 rfl rfl (by kernel_rfl) rfl rfl) ?_; iterate 2 refine rm rfl ?_
        refine re_bool (d := 57) rfl (fun h57 => ?_) (fun h57 => ?_)
        ·
         iterate 11 refine rz rfl ?_
         refine rm rfl ?_; refine re_end rfl ?_
         exact ⟨rfl, bl (by first | (simp [h57, h53]; done) | (rw [tied_next]; simp [h57, h53]; done) | (revert h57 h53; cases s.last <;> cases openB C i <;> simp)), by repeat (first | exact subL_refl _ | refine subL_skip rfl ?_), hl⟩
        ·
         refine rr rfl (rd_fieldAddr rfl rfl (fa Tryz.underlying63 az63 rfl)) ?_; refine rr rfl (rl hl 0 rfl rfl (by kernel_rfl) rfl rfl) ?_; refine rr rfl (rd_un rfl rfl rfl) ?_; refine rm rfl ?_; refine re_bool (d := 61) rfl (fun h61 => ?_) (fun h61 => ?_)
         ·
          refine rr rfl (rd_fieldAddr rfl rfl (fa Tryz.underlying24 az24 rfl)) ?_; refine rr rfl (rl hl 1 rfl rfl (by kernel_rfl) rfl rfl) ?_; refine rm rfl ?_; refine rr rfl (rd_bin rfl rfl rfl (i6 (by omega))) ?_
          refine re_callL hl rfl rfl rfl rfl rfl rfl rfl (spec70 a cap C ((i : Int) + 1) (hv.move (hl.since 0 rfl))) ?_; rintro v S1 hk1 rfl hl
          refine rr rfl (rd_un rfl rfl rfl) ?_; iterate 2 refine rm rfl ?_
          refine re_end rfl ?_
          exact ⟨rfl, bl (by first | (simp [h61, h57, h53]; done) | (rw [tied_next]; simp [h61, h57, h53]; done) | (revert h61 h57 h53; cases s.last <;> cases openB C i <;> simp)), by repeat (first | exact subL_refl _ | refine subL_skip rfl ?_), hl⟩
         ·
          iterate 6 refine rz rfl ?_
          iterate 2 refine rm rfl ?_
          refine re_end rfl ?_
          exact ⟨rfl, bl (by first | (simp [h61, h57, h53]; done) | (rw [tied_next]; simp [h61, h57, h53]; done) | (revert h61 h57 h53; cases s.last <;> cases openB C i <;> simp)), by repeat (first | exact subL_refl _ | refine subL_skip rfl ?_), hl⟩
       ·
        iterate 2 refine rz rfl ?_
        iterate 2 refine rm rfl ?_
        refine rr rfl (rd_fieldAddr rfl rfl (fa Tryz.underlying63 az63 rfl)) ?_; refine rr rfl (rl hl 0 rfl rfl (by kernel_rfl) rfl rfl) ?_; refine rr rfl (rd_un rfl rfl rfl) ?_; refine rm rfl ?_; refine re_bool (d := 61) rfl (fun h61 => ?_) (fun h61 => ?_)
        ·
         refine rr rfl (rd_fieldAddr rfl rfl (fa Tryz.underlying24 az24 rfl)) ?_; refine rr rfl (rl hl 1 rfl rfl (by kernel_rfl) rfl rfl) ?_; refine rm rfl ?_; refine rr rfl (rd_bin rfl rfl rfl (i6 (by omega))) ?_
         refine re_callL hl rfl rfl rfl rfl rfl rfl rfl (spec70 a cap C ((i : Int) + 1) (hv.move (hl.since 0 rfl))) ?_; rintro v S1 hk1 rfl hl
         refine rr rfl (rd_un rfl rfl rfl) ?_; iterate 2 refine rm rfl ?_
         refine re_end rfl ?_
         exact ⟨rfl, bl (by first | (simp [h61, h53]; done) | (rw [tied_next]; simp [h61, h53]; done) | (revert h61 h53; cases s.last <;> cases openB C i <;> simp)), by repeat (first | exact subL_refl _ | refine subL_skip rfl ?_), hl⟩
        ·
         iterate 6 refine rz rfl ?_
         iterate 2 refine rm rfl ?_
         refine re_end rfl ?_
         exact ⟨rfl, bl (by first | (simp [h61, h53]; done) | (rw [tied_next]; simp [h61, h53]; done) | (revert h61 h53; cases s.last <;> cases openB C i <;> simp)), by repeat (first | exact subL_refl _ | refine subL_skip rfl ?_), hl⟩
      intro S1 hl
      refine xp_cond rfl rfl (fun h69 => ?_) (fun h69 => ?_)
      ·
       refine xs (by kernel_rfl) ?_; iterate 3 refine rm rfl ?_
       refine re_end rfl ?_; refine xp_ret rfl ?_
       refine blk_ret (thn_ret (round_ret (blk_ret (thn_ret (done_ret (ress_tmp rfl (ress_tmp rfl rfl)) ⟨hl.keep, res2 (by rw [hck, ← hin, refE_bad hs h31 h36 h69])⟩)))))
      ·
       refine xp_skip rfl ?_; refine xg (by kernel_rfl) ?_; refine rm rfl ?_; refine rr rfl (rd_bin rfl rfl rfl rfl) ?_; refine rm rfl ?_; refine re_end rfl ?_
       exact ⟨C.length - (i + 1), by omega, i + 1, by omega, rfl, ⟨congrArg some (congrArg (Value.int .i64) (IntWalk.i64_in _ (by omega))), rfl, trivial⟩, (refE_go hs h31 h36 h69 hin).1, (refE_go hs h31 h36 h69 hin).2, hl.tail⟩
   ·
    refine xp_exit rfl ?_; refine xs (by kernel_rfl) ?_; iterate 2 refine rm rfl ?_
    refine re_end rfl ?_; refine xp_ret rfl ?_
    refine done_ret (ress_tmp rfl (ress_tmp rfl rfl)) ⟨hl.keep, res2 (by rw [hck, ← hin, List.drop_eq_nil_of_le (by have := of_decide_eq_false h20; omega)]; rfl)⟩
end Go.Proofs.YtkmhecihkckcmaaGreatDoor
namespace Go.Proofs.YtkmhecihkckcmaaGreatDoor
open Go.Cm Go
set_option maxRecDepth 100000
variable {S : St}
def bareS (s : Sg) : Sg := { kind := s.kind, value := 0, place := s.place, acc := s.acc, color := s.color, stem := s.stem, oblique := s.oblique, last := s.last, mx := 0, md := 0, tm := 0, pr := 0, stroke := false, n := 0, d := 0, step := 0, line := 0 }
def fieldsE (s : Sg) (last : Bool) : Int :=
 bif s.kind != 4 then 8 else bif decide (s.place < -4) || decide (s.place > 12) then 2 else bif decide (s.acc < -1) || decide (s.acc > 2) then 2
 else bif decide (s.stem < 0) || decide (s.stem > 3) then 2 else bif (!(s.last == last)) || !decide (bareS s = s) then 3 else 0
def zSg : Sg := ⟨0, 0, 0, 0, false, 0, false, false, 0, 0, 0, 0, false, 0, 0, 0, 0⟩
def sgI (C : List Sg) (k : Int) : Sg := match nth C k.toNat with
 | some s => s
 | none => zSg
theorem sgI_nth {C : List Sg} {k : Int} {s : Sg} (h : nth C k.toNat = some s) : sgI C k = s := by unfold sgI; rw [h]
theorem sgI_at {C : List Sg} {i : Nat} {s : Sg} (h : nth C i = some s) : sgI C (i : Int) = s := sgI_nth (k := (i : Int)) h
theorem Signs.row {S : St} {a : Option Addr} {len cap : Nat} {C : List Sg} (h : Signs S (.slice a len cap) C) (hne : 0 < C.length) :
  ∃ b o cs, a = some ⟨b, o, none⟩ ∧ RowAt S b 63 cs ∧ ∀ k : Int, 0 ≤ k → k < C.length → takeN 17 (dropN (o + k.toNat * 17) cs) = some (sgI C k).cells := by
 obtain ⟨x, hx⟩ := nth_some hne
 obtain ⟨b, o, cs, h1, _, h3, _⟩ := h.elem hx
 refine ⟨b, o, cs, h1, h3, fun k hk hk2 => ?_⟩
 obtain ⟨y, hy⟩ := nth_some (show k.toNat < C.length by omega)
 obtain ⟨b', o', cs', h1', _, h3', h4'⟩ := h.elem hy
 cases h1.symm.trans h1'
 obtain ⟨_, own, kin, g⟩ := h3
 obtain ⟨_, own', kin', g'⟩ := h3'
 rw [g] at g'
 cases g'
 rw [sgI_nth hy]
 exact h4'
def shapedB (C : List Sg) (k : Int) : Bool :=
 bif decide (k > 0) && (((sgI C k).stem == 1) || ((sgI C k).stem == 2)) then false
 else bif (sgI C k).oblique && ((k + 1 == (C.length : Int)) || decide ((sgI C (k + 1)).place ≥ (sgI C k).place) || (sgI C (k + 1)).oblique) then false
 else bif decide (k > 0) && ((sgI C (k - 1)).place == (sgI C k).place) then false
 else !(decide (k < 2) && ((sgI C k).stem == 3) && ((sgI C 0).stem == 1))
def fieldsAt (C : List Sg) (k : Int) : Int := fieldsE (sgI C k) (k + 1 == (C.length : Int))
def ligE1 (C : List Sg) (k : Int) : Int := bif fieldsAt C k != 0 then fieldsAt C k else bif !shapedB C k then 3 else 0
def ligE : Nat → List Sg → Nat → Int × Int
 | 0, _, _ => (0, 0)
 | n + 1, C, i => bif ligE1 C i != 0 then (ligE1 C i, (i : Int)) else ligE n C (i + 1)
def ligB (C : List Sg) : Bool := decide ((C.length : Int) < 2) || decide ((C.length : Int) > 12)
def ligCheck (C : List Sg) : Int × Int := bif ligB C then (11, 0) else ligE C.length C 0
theorem ligE_no {n i : Nat} {C : List Sg} (h : ligE1 C i ≠ 0) : ligE (n + 1) C i = (ligE1 C i, (i : Int)) := by
 rw [ligE, show (ligE1 C i != 0) = true by simpa using h]; rfl
theorem ligE_go {n i : Nat} {C : List Sg} (h : ligE1 C i = 0) : ligE (n + 1) C i = ligE n C (i + 1) := by
 rw [ligE, h]; rfl
theorem ligE1_f {C : List Sg} {k : Int} (h : (fieldsAt C k != 0) = true) : ligE1 C k = fieldsAt C k := by unfold ligE1; rw [h]; rfl
theorem ligE1_s {C : List Sg} {k : Int} (h : (fieldsAt C k != 0) = false) (h2 : (!shapedB C k) = true) : ligE1 C k = 3 := by unfold ligE1; rw [h, h2]; rfl
theorem ligE1_ok {C : List Sg} {k : Int} (h : (fieldsAt C k != 0) = false) (h2 : (!shapedB C k) = false) : ligE1 C k = 0 := by unfold ligE1; rw [h, h2]; rfl
def rule1 (C : List Sg) (k : Int) : Int := bif (sgI C k).stem == 3 then 2 else 0
def rule2 (C : List Sg) (k : Int) : Int := bif decide (k < 2) && ((sgI C 0).stem == 1) then 4 else 0
def rule3 (C : List Sg) (k : Int) : Int := bif decide (k > 0) then 0 else bif decide ((sgI C 1).place < (sgI C 0).place) == ((sgI C 0).stem == 2) then 3 else 2
def rule4 (C : List Sg) (k : Int) : Int := bif (k + 1 == (C.length : Int)) && !(sgI C (k - 1)).oblique && decide ((sgI C k).place < (sgI C (k - 1)).place) then 2 else 0
def ruleN (C : List Sg) (k : Int) : Nat → Int
 | 0 => rule1 C k
 | 1 => rule2 C k
 | 2 => rule3 C k
 | 3 => rule4 C k
 | _ => 3
def ligValue (C : List Sg) (k : Int) : Int :=
 bif rule1 C k != 0 then rule1 C k else bif rule2 C k != 0 then rule2 C k else bif rule3 C k != 0 then rule3 C k else bif rule4 C k != 0 then rule4 C k else 3
def ligValues (C : List Sg) : List Int := (List.range' 0 C.length).map fun i => ligValue C (i : Nat)
def classI (k : Int) : Int := bif decide (k < 1) || decide (k > 12) then 0 else bif (k == 1) || (k == 2) || (k == 4) then 1 else bif k == 3 then 2 else bif (k == 5) || (k == 6) || (k == 9) || (k == 10) then 3 else 4
structure Bk where
 kind : Int
 frm : Int
 upto : Int
instance : DecidableEq Bk := fun a b => decidable_of_iff (a.kind = b.kind ∧ a.frm = b.frm ∧ a.upto = b.upto) ⟨fun h => by cases a; cases b; rw [Bk.mk.injEq]; exact h, fun h => by subst h; simp⟩
def Bk.cells (b : Bk) : List Value := [.int .i64 b.kind, .int .i64 b.frm, .int .i64 b.upto]
def Bk.v (b : Bk) : Value := aggL b.cells
def cmpI (a b : Int) : Int := bif decide (a < b) then -1 else bif decide (a > b) then 1 else 0
def orI : List Int → Int
 | [] => 0
 | x :: r => bif x != 0 then x else orI r
def bkCmp (a b : Bk) : Int := orI [cmpI a.frm b.frm, cmpI b.upto a.upto, cmpI a.kind b.kind]
def bkBefore (a b : Bk) : Bool := bif a.frm != b.frm then decide (a.frm < b.frm) else bif a.upto != b.upto then decide (a.upto > b.upto) else decide (a.kind < b.kind)
theorem bk_before (a b : Bk) : (!bkBefore a b) = decide (bkCmp a b ≥ 0) := by
 unfold bkBefore bkCmp orI orI orI orI cmpI
 by_cases h1 : a.frm < b.frm
 ·have h2 : ¬ a.frm = b.frm := by omega
  simp [h1, h2]
 ·by_cases h2 : a.frm > b.frm
  ·have h3 : ¬ a.frm = b.frm := by omega
   simp [h1, h2, h3]
  ·have h3 : a.frm = b.frm := by omega
   by_cases h4 : b.upto < a.upto
   ·have h5 : ¬ a.upto = b.upto := by omega
    simp [h1, h2, h3, h4, h5]
   ·by_cases h5 : b.upto > a.upto
    ·have h6 : ¬ a.upto = b.upto := by omega
     simp [h1, h2, h3, h4, h5, h6]
    ·have h6 : a.upto = b.upto := by omega
     by_cases h7 : a.kind < b.kind
     ·simp [h1, h2, h3, h4, h5, h6, h7]
     ·by_cases h8 : a.kind > b.kind
      ·simp [h1, h2, h3, h4, h5, h6, h7, h8]
      ·simp [h1, h2, h3, h4, h5, h6, h7, h8]
def noteB (s : Sg) : Bool := (s.kind == 1) || (s.kind == 2) || (s.kind == 4)
def bkE (C : List Sg) (x : Bk) : Int :=
 bif decide (x.kind < 1) || decide (x.kind > 3) then 8
 else bif decide (x.frm < 0) || decide (x.frm ≥ C.length) || decide (x.upto < 0) || decide (x.upto ≥ C.length) then 2
 else bif !noteB (sgI C x.frm) || !noteB (sgI C x.upto) || decide (x.frm > x.upto) then 3 else 0
def bksE (C : List Sg) : Option Bk → List Bk → Nat → Int × Int
 | _, [], _ => (0, 0)
 | p, x :: r, i => bif bkE C x != 0 then (bkE C x, (i : Int)) else
  match p with
  | none => bksE C (some x) r (i + 1)
  | some y => bif decide (bkCmp y x ≥ 0) then (6, (i : Int)) else bksE C (some x) r (i + 1)
def overI (n : Int) : List Bk → Nat → List Int
 | [], _ => []
 | x :: r, i => (bif decide (x.frm ≤ n) && decide (n ≤ x.upto) then [(i : Int)] else []) ++ overI n r (i + 1)
end Go.Proofs.YtkmhecihkckcmaaGreatDoor

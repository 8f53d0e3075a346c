/-
  Small functions of the reference and of the law.
-/
import Derived.Test.YtgnhcamhcnkbfaaGreatDoorSm8
namespace Go.Proofs.YtgnhcamhcnkbfaaGreatDoor
open Go.Cm Go
set_option maxRecDepth 100000
variable {S : St}
theorem mem_nth {s : Sg} : ∀ {C : List Sg}, s ∈ C → ∃ j, nth C j = some s
  | [], h => (List.not_mem_nil h).elim
  | x :: C, h => by
    rcases List.mem_cons.1 h with rfl | h
    · exact ⟨0, rfl⟩
    · obtain ⟨j, hj⟩ := mem_nth h
      exact ⟨j + 1, hj⟩
noncomputable def c47 : Code := Tryz.f47.body.getD .skip
theorem spec47 (a : Option Addr) (cap : Nat) (C : List Sg) (s : Sg) (hn : C.length ≤ 1000) (hv : Signs S (.slice a C.length cap) C) : CC Tryz.prog KK 47 [.slice a C.length cap, s.v] S (fun v S' => Keep S S' ∧ v = .bool (decide (s ∈ C))) := by
  refine cc_enter (c := c47) (n := 18) Tryz.func47 rfl rfl rfl (by kernel_rfl) rfl rfl ?_
  have hl := Hold.start S
  refine xp_seq rfl ?_; refine xp_region rfl (by kernel_rfl) ?_; refine re_boxL hl rfl rfl rfl rfl rfl rfl ?_; intro B3 S3 hl; refine re_rd rfl rfl rfl rfl (rd_assign rfl rfl) ?_; refine re_end rfl ?_; iterate 2 refine xp_seq rfl ?_
  refine xp_region rfl (by kernel_rfl) ?_; refine re_rd rfl rfl rfl rfl (rd_assign rfl rfl) ?_; refine re_end rfl ?_; refine xp_block rfl ?_
  -- LOOP
  refine xe_sub (L' := [(5, .int .i64 0), (3, ptrTo B3 0), (0, .slice a C.length cap)]) ⟨rfl, rfl, rfl, trivial⟩ ?_
  refine xp_loop rfl (fun m Le S' => ∃ i : Nat, i ≤ C.length ∧ m = C.length - i ∧ SubE [(5, .int .i64 (i : Int)), (3, ptrTo B3 0), (0, .slice a C.length cap)] Le ∧ (∀ j, j < i → ∀ y, nth C j = some y → y ≠ s) ∧ Hold S [S] S' [(B3, .cells s.cells 54 false true [])]) ?_ (m := C.length) ⟨0, by omega, rfl, ⟨rfl, rfl, rfl, trivial⟩, fun j hj => by omega, hl⟩
  clear hl; rintro m Le S' ⟨i, hi, rfl, hsub, hne, hl⟩; refine xe_sub hsub ?_
  iterate 2 refine xp_seq rfl ?_
  refine xp_region rfl (by kernel_rfl) ?_; iterate 2 refine re_rd rfl rfl rfl rfl (rd_move rfl rfl) ?_
  refine re_rd rfl rfl rfl rfl (rd_len rfl rfl (len_slice Tryz.underlying25)) ?_; refine re_rd rfl rfl rfl rfl (rd_bin rfl rfl rfl rfl) ?_; refine re_end rfl ?_; refine xp_cond rfl rfl (fun h9 => ?_) (fun h9 => ?_)
  ·
    have hlt : i < C.length := by have := of_decide_eq_true h9; omega
    obtain ⟨x, hx⟩ := nth_some hlt
    obtain ⟨b, o, cs, ha, _, hrow, htk⟩ := hv.elem hx
    refine xp_skip rfl ?_; refine xp_seq rfl ?_; refine xp_block rfl ?_; refine xp_seq rfl ?_; refine xp_draw (idx := [0, 1, 2, 3, 4, 5]) rfl (by kernel_rfl) (by kernel_rfl) ?_; iterate 2 refine rp_rd rfl rfl rfl rfl rfl (rd_move rfl rfl) ?_
    refine rp_rd rfl rfl rfl rfl rfl (rd_indexAddr rfl rfl rfl (indexAddr_sl (z := 17) ha Tryz.underlying25 (by kernel_rfl) ⟨by omega, by omega⟩)) ?_; refine rp_lk rfl rfl rfl rfl rfl (rd_load rfl rfl (loadN_row (z := 17) (by kernel_rfl) (by kernel_rfl) (row_move (hl.since 0 rfl) hrow) htk)) ?_; refine rp_lk rfl rfl rfl rfl rfl (rd_load rfl rfl (loadN_of (z := 17) (by kernel_rfl) (by kernel_rfl) (hl.get 0 rfl) rfl)) ?_; refine rp_rd rfl rfl rfl rfl rfl (rd_bin rfl rfl rfl (eqSign' _ _ x s)) ?_; refine rp_end rfl ?_; refine xp_cond rfl rfl (fun h17 => ?_) (fun h17 => ?_)
    ·
      refine xp_seq rfl ?_; refine xp_region rfl (by kernel_rfl) ?_; refine re_rd rfl rfl rfl rfl (rd_assign rfl rfl) ?_; refine re_end rfl ?_; refine xp_ret rfl ?_
      refine blk_ret (thn_ret (round_ret (blk_ret (thn_ret (done_ret (ress_tmp rfl rfl) ⟨hl.keep, congrArg Value.bool (by symm; rw [decide_eq_true_iff]; obtain rfl : x = s := (by simpa using h17); exact nth_mem hx)⟩)))))
    ·
      refine xp_skip rfl ?_; refine xp_region rfl (by kernel_rfl) ?_; refine re_rd rfl rfl rfl rfl (rd_move rfl rfl) ?_; refine re_rd rfl rfl rfl rfl (rd_bin rfl rfl rfl rfl) ?_; refine re_rd rfl rfl rfl rfl (rd_assign rfl rfl) ?_; refine re_end rfl ?_
      refine ⟨C.length - (i + 1), by omega, i + 1, by omega, rfl, ⟨congrArg some (congrArg (Value.int .i64) (IntWalk.i64_in _ (by omega))), rfl, rfl, trivial⟩, fun j hj y hy => ?_, hl⟩
      rcases Nat.lt_succ_iff_lt_or_eq.1 hj with hj | rfl
      · exact hne j hj y hy
      · rw [hx] at hy; cases hy; simpa using h17
  ·
    refine xp_exit rfl ?_; refine xp_seq rfl ?_; refine xp_region rfl (by kernel_rfl) ?_; refine re_rd rfl rfl rfl rfl (rd_assign rfl rfl) ?_; refine re_end rfl ?_; refine xp_ret rfl ?_
    refine done_ret (ress_tmp rfl rfl) ⟨hl.keep, congrArg Value.bool (by symm; rw [decide_eq_false_iff_not]; intro hm; obtain ⟨j, hj⟩ := mem_nth hm; exact hne j (by have := nth_lt hj; have := of_decide_eq_false h9; omega) s hj rfl)⟩

noncomputable def c62 : Code := Tryz.f62.body.getD .skip
theorem spec62 (a : Option Addr) (n cap : Nat) (b : Bool) (hn : n ≤ 1000) : CC Tryz.prog KK 62 [aggL [.slice a n cap, .bool b]] S (fun v S' => Keep S S' ∧ v = .int .i64 (n + bif b then 1 else 0)) := by
  refine cc_enter (c := c62) (n := 12) Tryz.func62 rfl rfl rfl (by kernel_rfl) rfl rfl ?_
  have hl := Hold.start S
  refine xp_seq rfl ?_; refine xp_region rfl (by kernel_rfl) ?_; refine re_boxL hl rfl rfl rfl rfl rfl rfl ?_; intro B1 S1 hl; refine re_rd rfl rfl rfl rfl (rd_assign rfl rfl) ?_; refine re_end rfl ?_; iterate 2 refine xp_seq rfl ?_
  refine xp_region rfl (by kernel_rfl) ?_; refine re_rd rfl rfl rfl rfl (rd_fieldAddr rfl rfl (fieldAddr_at Tryz.underlying43 rfl (by kernel_rfl))) ?_; refine re_rd rfl rfl rfl rfl (rd_load rfl rfl (load1_of (by kernel_rfl) (hl.get 0 rfl) rfl)) ?_; refine re_end rfl ?_; refine xp_cond rfl rfl (fun h4 => ?_) (fun h4 => ?_)
  ·
    refine xp_seq rfl ?_; refine xp_region rfl (by kernel_rfl) ?_; refine re_rd rfl rfl rfl rfl (rd_fieldAddr rfl rfl (fieldAddr_at Tryz.underlying43 rfl (by kernel_rfl))) ?_; refine re_rd rfl rfl rfl rfl (rd_load rfl rfl (load1_of (by kernel_rfl) (hl.get 0 rfl) rfl)) ?_; refine re_rd rfl rfl rfl rfl (rd_len rfl rfl (len_slice Tryz.underlying25)) ?_; refine re_rd rfl rfl rfl rfl (rd_bin rfl rfl rfl rfl) ?_; refine re_rd rfl rfl rfl rfl (rd_assign rfl rfl) ?_; refine re_end rfl ?_; refine xp_ret rfl ?_
    refine thn_ret (done_ret (ress_tmp rfl rfl) ⟨hl.keep, congrArg (Value.int .i64) (by rw [h4]; exact IntWalk.i64_in _ (by omega))⟩)
  ·
    refine xp_skip rfl ?_; refine xp_seq rfl ?_; refine xp_region rfl (by kernel_rfl) ?_; refine re_rd rfl rfl rfl rfl (rd_fieldAddr rfl rfl (fieldAddr_at Tryz.underlying43 rfl (by kernel_rfl))) ?_; refine re_rd rfl rfl rfl rfl (rd_load rfl rfl (load1_of (by kernel_rfl) (hl.get 0 rfl) rfl)) ?_; refine re_rd rfl rfl rfl rfl (rd_len rfl rfl (len_slice Tryz.underlying25)) ?_; refine re_rd rfl rfl rfl rfl (rd_assign rfl rfl) ?_; refine re_end rfl ?_; refine xp_ret rfl ?_
    refine done_ret (ress_tmp rfl rfl) ⟨hl.keep, congrArg (Value.int .i64) (by rw [h4]; simp)⟩

noncomputable def c60 : Code := Tryz.f60.body.getD .skip
theorem spec60 (c : Int) : CC Tryz.prog KK 60 [.int .u8 c] S (fun v S' => Keep S S' ∧ v = .bool (decide (97 ≤ c) && decide (c ≤ 122))) := by
  refine cc_enter (c := c60) (n := 9) Tryz.func60 rfl rfl rfl (by kernel_rfl) rfl rfl ?_
  have hl := Hold.start S
  refine xp_seq rfl ?_; refine xp_region rfl (by kernel_rfl) ?_; refine re_rd rfl rfl rfl rfl (rd_assign rfl rfl) ?_; refine re_end rfl ?_; refine xp_seq rfl ?_; refine xp_region rfl (by kernel_rfl) ?_; refine re_rd rfl rfl rfl rfl (rd_move rfl rfl) ?_; refine re_rd rfl rfl rfl rfl (rd_bin rfl rfl rfl rfl) ?_; refine re_rd rfl rfl rfl rfl (rd_move rfl rfl) ?_; refine re_bool (d := 5) rfl (fun h5 => ?_) (fun h5 => ?_)
  ·
    refine re_rd rfl rfl rfl rfl (rd_move rfl rfl) ?_; refine re_rd rfl rfl rfl rfl (rd_bin rfl rfl rfl rfl) ?_; refine re_rd rfl rfl rfl rfl (rd_pick_t rfl rfl rfl) ?_; refine re_rd rfl rfl rfl rfl (rd_assign rfl rfl) ?_; refine re_end rfl ?_; refine xp_ret rfl ?_
    refine done_ret (ress_tmp rfl rfl) ⟨hl.keep, congrArg Value.bool (by first | (simp [h5]; done) | (simp at *; simp [*]; done) | (simp at *; omega))⟩
  ·
    iterate 2 refine re_pass rfl rfl rfl rfl ?_
    refine re_rd rfl rfl rfl rfl (rd_pick_f rfl rfl rfl) ?_; refine re_rd rfl rfl rfl rfl (rd_assign rfl rfl) ?_; refine re_end rfl ?_; refine xp_ret rfl ?_
    refine done_ret (ress_tmp rfl rfl) ⟨hl.keep, congrArg Value.bool (by first | (simp [h5]; done) | (simp at *; simp [*]; done) | (simp at *; omega))⟩

noncomputable def c61 : Code := Tryz.f61.body.getD .skip
theorem spec61 (c : Int) : CC Tryz.prog KK 61 [.int .u8 c] S (fun v S' => Keep S S' ∧ v = .bool (decide (48 ≤ c) && decide (c ≤ 57))) := by
  refine cc_enter (c := c61) (n := 9) Tryz.func61 rfl rfl rfl (by kernel_rfl) rfl rfl ?_
  have hl := Hold.start S
  refine xp_seq rfl ?_; refine xp_region rfl (by kernel_rfl) ?_; refine re_rd rfl rfl rfl rfl (rd_assign rfl rfl) ?_; refine re_end rfl ?_; refine xp_seq rfl ?_; refine xp_region rfl (by kernel_rfl) ?_; refine re_rd rfl rfl rfl rfl (rd_move rfl rfl) ?_; refine re_rd rfl rfl rfl rfl (rd_bin rfl rfl rfl rfl) ?_; refine re_rd rfl rfl rfl rfl (rd_move rfl rfl) ?_; refine re_bool (d := 5) rfl (fun h5 => ?_) (fun h5 => ?_)
  ·
    refine re_rd rfl rfl rfl rfl (rd_move rfl rfl) ?_; refine re_rd rfl rfl rfl rfl (rd_bin rfl rfl rfl rfl) ?_; refine re_rd rfl rfl rfl rfl (rd_pick_t rfl rfl rfl) ?_; refine re_rd rfl rfl rfl rfl (rd_assign rfl rfl) ?_; refine re_end rfl ?_; refine xp_ret rfl ?_
    refine done_ret (ress_tmp rfl rfl) ⟨hl.keep, congrArg Value.bool (by first | (simp [h5]; done) | (simp at *; simp [*]; done) | (simp at *; omega))⟩
  ·
    iterate 2 refine re_pass rfl rfl rfl rfl ?_
    refine re_rd rfl rfl rfl rfl (rd_pick_f rfl rfl rfl) ?_; refine re_rd rfl rfl rfl rfl (rd_assign rfl rfl) ?_; refine re_end rfl ?_; refine xp_ret rfl ?_
    refine done_ret (ress_tmp rfl rfl) ⟨hl.keep, congrArg Value.bool (by first | (simp [h5]; done) | (simp at *; simp [*]; done) | (simp at *; omega))⟩

noncomputable def c77 : Code := Tryz.f77.body.getD .skip
theorem spec77 (a b c : Int) : CC Tryz.prog KK 77 [.int .i64 a, .int .i64 b, .int .i64 c] S (fun v S' => Keep S S' ∧ v = .bool (decide (b ≤ a) && decide (a ≤ c))) := by
  refine cc_enter (c := c77) (n := 15) Tryz.func77 rfl rfl rfl (by kernel_rfl) rfl rfl ?_
  have hl := Hold.start S
  refine xp_seq rfl ?_; refine xp_region rfl (by kernel_rfl) ?_; refine re_rd rfl rfl rfl rfl (rd_assign rfl rfl) ?_; refine re_end rfl ?_; refine xp_seq rfl ?_; refine xp_region rfl (by kernel_rfl) ?_; iterate 2 refine re_rd rfl rfl rfl rfl (rd_move rfl rfl) ?_
  refine re_rd rfl rfl rfl rfl (rd_bin rfl rfl rfl rfl) ?_; refine re_rd rfl rfl rfl rfl (rd_move rfl rfl) ?_; refine re_bool (d := 10) rfl (fun h10 => ?_) (fun h10 => ?_)
  ·
    iterate 2 refine re_rd rfl rfl rfl rfl (rd_move rfl rfl) ?_
    refine re_rd rfl rfl rfl rfl (rd_bin rfl rfl rfl rfl) ?_; refine re_rd rfl rfl rfl rfl (rd_pick_t rfl rfl rfl) ?_; refine re_rd rfl rfl rfl rfl (rd_assign rfl rfl) ?_; refine re_end rfl ?_; refine xp_ret rfl ?_
    refine done_ret (ress_tmp rfl rfl) ⟨hl.keep, congrArg Value.bool (by first | (simp [h10]; done) | (simp at *; simp [*]; done) | (simp at *; omega))⟩
  ·
    iterate 3 refine re_pass rfl rfl rfl rfl ?_
    refine re_rd rfl rfl rfl rfl (rd_pick_f rfl rfl rfl) ?_; refine re_rd rfl rfl rfl rfl (rd_assign rfl rfl) ?_; refine re_end rfl ?_; refine xp_ret rfl ?_
    refine done_ret (ress_tmp rfl rfl) ⟨hl.keep, congrArg Value.bool (by first | (simp [h10]; done) | (simp at *; simp [*]; done) | (simp at *; omega))⟩

theorem mem_nthS {α : Type} {s : α} : ∀ {C : List α}, s ∈ C → ∃ j, nth C j = some s
  | [], h => (List.not_mem_nil h).elim
  | x :: C, h => by
    rcases List.mem_cons.1 h with rfl | h
    · exact ⟨0, rfl⟩
    · obtain ⟨j, hj⟩ := mem_nthS h
      exact ⟨j + 1, hj⟩
def bigB (nm : List UInt8) (n : Nat) (most : Int) : Bool := (decide ((nm.length : Int) > 100) || (decide ((n : Int) > most) && decide ((n : Int) ≤ 400))) || decide ((n : Int) > 420)
def smallF (nm : List UInt8) (L : List Spt) (most : Int) : Bool := !bigB nm L.length most && L.all fun x => !decide ((x.signs.length : Int) > 6)
theorem small_le {nm : List UInt8} {L : List Spt} {most : Int} (h : smallF nm L most = true) : L.length ≤ 420 ∧ ∀ x, x ∈ L → x.signs.length ≤ 6 := by
  unfold smallF at h
  simp only [Bool.and_eq_true] at h
  obtain ⟨h1, h2⟩ := h
  refine ⟨?_, fun x hx => ?_⟩
  · unfold bigB at h1
    simp at h1
    omega
  · have := List.all_eq_true.1 h2 x hx
    simp at this
    omega
theorem small_all {L : List Spt} (h : ∀ j x, nth L j = some x → decide ((x.signs.length : Int) > 6) = false) : (L.all fun x => !decide ((x.signs.length : Int) > 6)) = true := by
  rw [List.all_eq_true]
  intro x hx
  obtain ⟨j, hj⟩ := mem_nthS hx
  rw [h j x hj]
  rfl
theorem big_le {nm : List UInt8} {n : Nat} {most : Int} (h : bigB nm n most = false) : n ≤ 420 := by
  unfold bigB at h
  simp at h
  omega
noncomputable def c4 : Code := Tryz.f4.body.getD .skip
theorem spec4 (nm : ByteArray) (a : Option Addr) (cap : Nat) (L : List Spt) (most : Int) (hv : Spots S (.slice a L.length cap) L) : CC Tryz.prog KK 4 [aggL [.string nm, .slice a L.length cap], .int .i64 most] S (fun v S' => Keep S S' ∧ v = .bool (smallF nm.data.toList L most)) := by
  refine cc_enter (c := c4) (n := 44) Tryz.func4 rfl rfl rfl (by kernel_rfl) rfl rfl ?_
  have hl := Hold.start S
  refine xp_seq rfl ?_; refine xp_region rfl (by kernel_rfl) ?_; refine re_boxL hl rfl rfl rfl rfl rfl rfl ?_; intro B2 S2 hl; refine re_rd rfl rfl rfl rfl (rd_assign rfl rfl) ?_; refine re_end rfl ?_; refine xp_seq rfl ?_; refine xp_seq rfl (xe_toL hl [(28, .bool (bigB nm.data.toList L.length most)), (2, ptrTo B2 0)] ?_ ?_)
  ·
    refine xp_region rfl (by kernel_rfl) ?_; refine re_rd rfl rfl rfl rfl (rd_fieldAddr rfl rfl (fieldAddr_at Tryz.underlying24 rfl (by kernel_rfl))) ?_; refine re_rd rfl rfl rfl rfl (rd_load rfl rfl (load1_of (by kernel_rfl) (hl.get 0 rfl) rfl)) ?_; refine re_rd rfl rfl rfl rfl (rd_len rfl rfl (len_string Tryz.underlying9)) ?_; refine re_rd rfl rfl rfl rfl (rd_bin rfl rfl rfl rfl) ?_; refine re_rd rfl rfl rfl rfl (rd_move rfl rfl) ?_; refine re_bool (d := 10) rfl (fun h10 => ?_) (fun h10 => ?_)
    ·
      iterate 11 refine re_pass rfl rfl rfl rfl ?_
      refine re_rd rfl rfl rfl rfl (rd_pick_t rfl rfl rfl) ?_; refine re_rd rfl rfl rfl rfl (rd_move rfl rfl) ?_; iterate 4 refine re_pass rfl rfl rfl rfl ?_
      refine re_rd rfl rfl rfl rfl (rd_pick_t rfl rfl rfl) ?_; refine re_end rfl ?_
      exact ⟨rfl, ⟨bl (by unfold bigB; simp only [h10, BLs]), rfl, trivial⟩, hl⟩
    ·
      refine re_rd rfl rfl rfl rfl (rd_fieldAddr rfl rfl (fieldAddr_at Tryz.underlying24 rfl (by kernel_rfl))) ?_; refine re_rd rfl rfl rfl rfl (rd_load rfl rfl (load1_of (by kernel_rfl) (hl.get 0 rfl) rfl)) ?_; refine re_rd rfl rfl rfl rfl (rd_len rfl rfl (len_slice Tryz.underlying22)) ?_; refine re_rd rfl rfl rfl rfl (rd_move rfl rfl) ?_; refine re_rd rfl rfl rfl rfl (rd_bin rfl rfl rfl rfl) ?_; refine re_rd rfl rfl rfl rfl (rd_move rfl rfl) ?_; refine re_bool (d := 16) rfl (fun h16 => ?_) (fun h16 => ?_)
      ·
        refine re_rd rfl rfl rfl rfl (rd_fieldAddr rfl rfl (fieldAddr_at Tryz.underlying24 rfl (by kernel_rfl))) ?_; refine re_rd rfl rfl rfl rfl (rd_load rfl rfl (load1_of (by kernel_rfl) (hl.get 0 rfl) rfl)) ?_; refine re_rd rfl rfl rfl rfl (rd_len rfl rfl (len_slice Tryz.underlying22)) ?_; refine re_rd rfl rfl rfl rfl (rd_bin rfl rfl rfl rfl) ?_; refine re_rd rfl rfl rfl rfl (rd_pick_t rfl rfl rfl) ?_; refine re_rd rfl rfl rfl rfl (rd_pick_f rfl rfl rfl) ?_; refine re_rd rfl rfl rfl rfl (rd_move rfl rfl) ?_; refine re_bool (d := 23) rfl (fun h23 => ?_) (fun h23 => ?_)
        ·
          iterate 4 refine re_pass rfl rfl rfl rfl ?_
          refine re_rd rfl rfl rfl rfl (rd_pick_t rfl rfl rfl) ?_; refine re_end rfl ?_
          exact ⟨rfl, ⟨bl (by unfold bigB; simp only [h23, h16, h10, BLs]), rfl, trivial⟩, hl⟩
        ·
          refine re_rd rfl rfl rfl rfl (rd_fieldAddr rfl rfl (fieldAddr_at Tryz.underlying24 rfl (by kernel_rfl))) ?_; refine re_rd rfl rfl rfl rfl (rd_load rfl rfl (load1_of (by kernel_rfl) (hl.get 0 rfl) rfl)) ?_; refine re_rd rfl rfl rfl rfl (rd_len rfl rfl (len_slice Tryz.underlying22)) ?_; refine re_rd rfl rfl rfl rfl (rd_bin rfl rfl rfl rfl) ?_; refine re_rd rfl rfl rfl rfl (rd_pick_f rfl rfl rfl) ?_; refine re_end rfl ?_
          exact ⟨rfl, ⟨bl (by unfold bigB; simp only [h23, h16, h10, BLs]), rfl, trivial⟩, hl⟩
      ·
        iterate 4 refine re_pass rfl rfl rfl rfl ?_
        iterate 2 refine re_rd rfl rfl rfl rfl (rd_pick_f rfl rfl rfl) ?_
        refine re_rd rfl rfl rfl rfl (rd_move rfl rfl) ?_; refine re_rd rfl rfl rfl rfl (rd_fieldAddr rfl rfl (fieldAddr_at Tryz.underlying24 rfl (by kernel_rfl))) ?_; refine re_rd rfl rfl rfl rfl (rd_load rfl rfl (load1_of (by kernel_rfl) (hl.get 0 rfl) rfl)) ?_; refine re_rd rfl rfl rfl rfl (rd_len rfl rfl (len_slice Tryz.underlying22)) ?_; refine re_rd rfl rfl rfl rfl (rd_bin rfl rfl rfl rfl) ?_; refine re_rd rfl rfl rfl rfl (rd_pick_f rfl rfl rfl) ?_; refine re_end rfl ?_
        exact ⟨rfl, ⟨bl (by unfold bigB; simp only [h16, h10, BLs]), rfl, trivial⟩, hl⟩
  intro S1 hl
  refine xp_cond rfl rfl (fun h28 => ?_) (fun h28 => ?_)
  ·
    refine xp_seq rfl ?_; refine xp_region rfl (by kernel_rfl) ?_; refine re_rd rfl rfl rfl rfl (rd_assign rfl rfl) ?_; refine re_end rfl ?_; refine xp_ret rfl ?_
    refine thn_ret (done_ret (ress_tmp rfl rfl) ⟨hl.keep, congrArg Value.bool (by unfold smallF; rw [h28]; rfl)⟩)
  ·
    refine xp_skip rfl ?_; iterate 2 refine xp_seq rfl ?_
    refine xp_region rfl (by kernel_rfl) ?_; refine re_rd rfl rfl rfl rfl (rd_assign rfl rfl) ?_; refine re_end rfl ?_; refine xp_block rfl ?_
    -- LOOP
    have hle := big_le h28
    refine xe_sub (L' := [(5, .int .i64 0), (2, ptrTo B2 0)]) ⟨rfl, rfl, trivial⟩ ?_
    refine xp_loop rfl (fun m Le S' => ∃ i : Nat, i ≤ L.length ∧ m = L.length - i ∧ SubE [(5, .int .i64 (i : Int)), (2, ptrTo B2 0)] Le ∧ (∀ j, j < i → ∀ x, nth L j = some x → decide ((x.signs.length : Int) > 6) = false) ∧ Hold S [S] S' [(B2, .cells [.string nm, .slice a L.length cap] 24 false true [])]) ?_ (m := L.length) ⟨0, by omega, rfl, ⟨rfl, rfl, trivial⟩, fun j hj => by omega, hl⟩
    clear hl; rintro m Le S' ⟨i, hi, rfl, hsub, hok, hl⟩; refine xe_sub hsub ?_
    iterate 2 refine xp_seq rfl ?_
    refine xp_region rfl (by kernel_rfl) ?_; refine re_rd rfl rfl rfl rfl (rd_move rfl rfl) ?_; refine re_rd rfl rfl rfl rfl (rd_fieldAddr rfl rfl (fieldAddr_at Tryz.underlying24 rfl (by kernel_rfl))) ?_; refine re_rd rfl rfl rfl rfl (rd_load rfl rfl (load1_of (by kernel_rfl) (hl.get 0 rfl) rfl)) ?_; refine re_rd rfl rfl rfl rfl (rd_len rfl rfl (len_slice Tryz.underlying22)) ?_; refine re_rd rfl rfl rfl rfl (rd_bin rfl rfl rfl rfl) ?_; refine re_end rfl ?_; refine xp_cond rfl rfl (fun h33 => ?_) (fun h33 => ?_)
    ·
      have hlt : i < L.length := by have := of_decide_eq_true h33; omega
      obtain ⟨x, hx⟩ := nth_some hlt
      obtain ⟨bx, ox, csx, ax, capx, hax, hrowx, htkx, hsgx⟩ := hv.elem hx
      refine xp_skip rfl ?_; refine xp_seq rfl ?_; refine xp_block rfl ?_; refine xp_seq rfl ?_; refine xp_region rfl (by kernel_rfl) ?_; refine re_rd rfl rfl rfl rfl (rd_fieldAddr rfl rfl (fieldAddr_at Tryz.underlying24 rfl (by kernel_rfl))) ?_; refine re_rd rfl rfl rfl rfl (rd_load rfl rfl (load1_of (by kernel_rfl) (hl.get 0 rfl) rfl)) ?_; refine re_rd rfl rfl rfl rfl (rd_move rfl rfl) ?_; refine re_rd rfl rfl rfl rfl (rd_indexAddr rfl rfl rfl (indexAddr_sl (z := 2) hax Tryz.underlying22 (by kernel_rfl) ⟨by omega, by omega⟩)) ?_
      refine re_rd rfl rfl rfl rfl (rd_fieldAddr rfl rfl (fieldAddr_at Tryz.underlying43 rfl (by kernel_rfl))) ?_; refine re_rd rfl rfl rfl rfl (rd_load rfl rfl (load1_row (by kernel_rfl) (row_move (hl.since 0 rfl) hrowx) (tk_nth htkx rfl))) ?_; refine re_rd rfl rfl rfl rfl (rd_len rfl rfl (len_slice Tryz.underlying25)) ?_; refine re_rd rfl rfl rfl rfl (rd_bin rfl rfl rfl rfl) ?_; refine re_end rfl ?_; refine xp_cond rfl rfl (fun h43 => ?_) (fun h43 => ?_)
      ·
        refine xp_seq rfl ?_; refine xp_region rfl (by kernel_rfl) ?_; refine re_rd rfl rfl rfl rfl (rd_assign rfl rfl) ?_; refine re_end rfl ?_; refine xp_ret rfl ?_
        refine blk_ret (thn_ret (round_ret (blk_ret (thn_ret (done_ret (ress_tmp rfl rfl) ⟨hl.keep, congrArg Value.bool (by unfold smallF; rw [List.all_eq_false.2 ⟨x, nth_mem hx, by rw [h43]; simp⟩, Bool.and_false])⟩)))))
      ·
        refine xp_skip rfl ?_; refine xp_region rfl (by kernel_rfl) ?_; refine re_rd rfl rfl rfl rfl (rd_move rfl rfl) ?_; refine re_rd rfl rfl rfl rfl (rd_bin rfl rfl rfl rfl) ?_; refine re_rd rfl rfl rfl rfl (rd_assign rfl rfl) ?_; refine re_end rfl ?_
        refine ⟨L.length - (i + 1), by omega, i + 1, by omega, rfl, ⟨congrArg some (congrArg (Value.int .i64) (IntWalk.i64_in _ (by omega))), rfl, trivial⟩, fun j hj y hy => ?_, hl⟩
        rcases Nat.lt_succ_iff_lt_or_eq.1 hj with hj | rfl
        · exact hok j hj y hy
        · rw [hx] at hy; cases hy; exact h43
    ·
      refine xp_exit rfl ?_; refine xp_seq rfl ?_; refine xp_region rfl (by kernel_rfl) ?_; refine re_rd rfl rfl rfl rfl (rd_assign rfl rfl) ?_; refine re_end rfl ?_; refine xp_ret rfl ?_
      refine done_ret (ress_tmp rfl rfl) ⟨hl.keep, congrArg Value.bool (by unfold smallF; rw [h28, small_all fun j x hj => hok j (by have := nth_lt hj; have := of_decide_eq_false h33; omega) x hj]; rfl)⟩

end Go.Proofs.YtgnhcamhcnkbfaaGreatDoor

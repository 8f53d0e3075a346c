/-
  The reference: sign One.
-/
import Derived.Test.YtgnhcamhcnkbfaaGreatDoorSm11r
namespace Go.Proofs.YtgnhcamhcnkbfaaGreatDoor
open Go.Cm Go
set_option maxRecDepth 100000
variable {S : St}
theorem one_1 {s : Sg} (h : (decide (s.kind < 1) || decide (s.kind > 12)) = true) : one s = 8 := by unfold one; rw [h]; rfl
theorem one_2 {s : Sg} (h : (decide (s.kind < 1) || decide (s.kind > 12)) = false) (h2 : (!decide (keptS s (ub s.kind 0) (ub s.kind 1) (ub s.kind 2) (ub s.kind 3) (ub s.kind 4) (ub s.kind 5) (ub s.kind 6) (ub s.kind 7) (ub s.kind 8) (ub s.kind 9) (ub s.kind 10) (ub s.kind 11) = s)) = true) : one s = 3 := by
  have h2' : (!decide (s = keptS s (ub s.kind 0) (ub s.kind 1) (ub s.kind 2) (ub s.kind 3) (ub s.kind 4) (ub s.kind 5) (ub s.kind 6) (ub s.kind 7) (ub s.kind 8) (ub s.kind 9) (ub s.kind 10) (ub s.kind 11))) = true := by rw [← h2]; congr 1; simp only [eq_comm]
  unfold one; rw [h, h2']; rfl
theorem one_k {s : Sg} (h2 : (!decide (keptS s (ub s.kind 0) (ub s.kind 1) (ub s.kind 2) (ub s.kind 3) (ub s.kind 4) (ub s.kind 5) (ub s.kind 6) (ub s.kind 7) (ub s.kind 8) (ub s.kind 9) (ub s.kind 10) (ub s.kind 11) = s)) = false) : (!decide (s = keptS s (ub s.kind 0) (ub s.kind 1) (ub s.kind 2) (ub s.kind 3) (ub s.kind 4) (ub s.kind 5) (ub s.kind 6) (ub s.kind 7) (ub s.kind 8) (ub s.kind 9) (ub s.kind 10) (ub s.kind 11))) = false := by rw [← h2]; congr 1; simp only [eq_comm]
theorem one_3 {s : Sg} (h : (decide (s.kind < 1) || decide (s.kind > 12)) = false) (h2 : (!decide (keptS s (ub s.kind 0) (ub s.kind 1) (ub s.kind 2) (ub s.kind 3) (ub s.kind 4) (ub s.kind 5) (ub s.kind 6) (ub s.kind 7) (ub s.kind 8) (ub s.kind 9) (ub s.kind 10) (ub s.kind 11) = s)) = false) (h3 : (ub s.kind 7 && (mensE s.mx s.md s.tm s.pr != 0)) = true) : one s = 12 := by
  unfold one; rw [h, one_k h2, h3]; rfl
theorem one_4 {s : Sg} (h : (decide (s.kind < 1) || decide (s.kind > 12)) = false) (h2 : (!decide (keptS s (ub s.kind 0) (ub s.kind 1) (ub s.kind 2) (ub s.kind 3) (ub s.kind 4) (ub s.kind 5) (ub s.kind 6) (ub s.kind 7) (ub s.kind 8) (ub s.kind 9) (ub s.kind 10) (ub s.kind 11) = s)) = false) (h3 : (ub s.kind 7 && (mensE s.mx s.md s.tm s.pr != 0)) = false) (h4 : (!rangedF s (ub s.kind 0) (ub s.kind 1) (ub s.kind 2) (ub s.kind 4) (ub s.kind 10) (ub s.kind 11)) = true) : one s = 2 := by
  unfold one; rw [h, one_k h2, h3, h4]; rfl
theorem one_5 {s : Sg} (h : (decide (s.kind < 1) || decide (s.kind > 12)) = false) (h2 : (!decide (keptS s (ub s.kind 0) (ub s.kind 1) (ub s.kind 2) (ub s.kind 3) (ub s.kind 4) (ub s.kind 5) (ub s.kind 6) (ub s.kind 7) (ub s.kind 8) (ub s.kind 9) (ub s.kind 10) (ub s.kind 11) = s)) = false) (h3 : (ub s.kind 7 && (mensE s.mx s.md s.tm s.pr != 0)) = false) (h4 : (!rangedF s (ub s.kind 0) (ub s.kind 1) (ub s.kind 2) (ub s.kind 4) (ub s.kind 10) (ub s.kind 11)) = false) (h5 : (s.oblique && s.last) = true) : one s = 3 := by
  unfold one; rw [h, one_k h2, h3, h4, h5]; rfl
theorem one_6 {s : Sg} (h : (decide (s.kind < 1) || decide (s.kind > 12)) = false) (h2 : (!decide (keptS s (ub s.kind 0) (ub s.kind 1) (ub s.kind 2) (ub s.kind 3) (ub s.kind 4) (ub s.kind 5) (ub s.kind 6) (ub s.kind 7) (ub s.kind 8) (ub s.kind 9) (ub s.kind 10) (ub s.kind 11) = s)) = false) (h3 : (ub s.kind 7 && (mensE s.mx s.md s.tm s.pr != 0)) = false) (h4 : (!rangedF s (ub s.kind 0) (ub s.kind 1) (ub s.kind 2) (ub s.kind 4) (ub s.kind 10) (ub s.kind 11)) = false) (h5 : (s.oblique && s.last) = false) : one s = 0 := by
  unfold one; rw [h, one_k h2, h3, h4, h5]; rfl
noncomputable def c45 : Code := Tryz.f45.body.getD .skip
theorem spec45 (s : Sg) : CC Tryz.prog KK 45 [s.v] S (fun v S' => Keep S S' ∧ v = .int .i64 (one s)) := by
  refine cc_enter (c := c45) (n := 38) Tryz.func45 rfl rfl rfl (by kernel_rfl) rfl rfl ?_
  have hl := Hold.start S
  refine xp_seq rfl ?_; refine xp_region rfl (by kernel_rfl) ?_; refine re_boxL hl rfl rfl rfl rfl rfl rfl ?_; intro B1 S1 hl; refine re_rd rfl rfl rfl rfl (rd_assign rfl rfl) ?_; refine re_end rfl ?_; refine xp_seq rfl ?_; refine xp_block rfl ?_; refine xp_seq rfl (xe_toL hl [(3, .bool (decide (s.kind < 1) || decide (s.kind > 12))), (1, ptrTo B1 0)] ?_ ?_)
  ·
    refine xp_region rfl (by kernel_rfl) ?_; refine re_rd rfl rfl rfl rfl (rd_fieldAddr rfl rfl (fieldAddr_at Tryz.underlying54 rfl (by kernel_rfl))) ?_; refine re_rd rfl rfl rfl rfl (rd_load rfl rfl (load1_of (by kernel_rfl) (hl.get 0 rfl) rfl)) ?_; refine re_rd rfl rfl rfl rfl (rd_bin rfl rfl rfl rfl) ?_; refine re_rd rfl rfl rfl rfl (rd_move rfl rfl) ?_; refine re_bool (d := 7) rfl (fun h7 => ?_) (fun h7 => ?_)
    ·
      iterate 3 refine re_pass rfl rfl rfl rfl ?_
      refine re_rd rfl rfl rfl rfl (rd_pick_t rfl rfl rfl) ?_; refine re_rd rfl rfl rfl rfl (rd_assign rfl rfl) ?_; refine re_end rfl ?_
      exact ⟨rfl, ⟨bl (by first | (simp [h7]; done) | (simp only [h7, BLs])), rfl, trivial⟩, hl⟩
    ·
      refine re_rd rfl rfl rfl rfl (rd_fieldAddr rfl rfl (fieldAddr_at Tryz.underlying54 rfl (by kernel_rfl))) ?_; refine re_rd rfl rfl rfl rfl (rd_load rfl rfl (load1_of (by kernel_rfl) (hl.get 0 rfl) rfl)) ?_; refine re_rd rfl rfl rfl rfl (rd_bin rfl rfl rfl rfl) ?_; refine re_rd rfl rfl rfl rfl (rd_pick_f rfl rfl rfl) ?_; refine re_rd rfl rfl rfl rfl (rd_assign rfl rfl) ?_; refine re_end rfl ?_
      exact ⟨rfl, ⟨bl (by first | (simp [h7]; done) | (simp only [h7, BLs])), rfl, trivial⟩, hl⟩
  intro S1 hl
  refine xp_cond rfl rfl (fun h3 => ?_) (fun h3 => ?_)
  ·
    refine xp_seq rfl ?_; refine xp_region rfl (by kernel_rfl) ?_; refine re_rd rfl rfl rfl rfl (rd_assign rfl rfl) ?_; refine re_end rfl ?_; refine xp_ret rfl ?_
    refine blk_ret (thn_ret (done_ret (ress_tmp rfl rfl) ⟨hl.keep, congrArg (Value.int .i64) (one_1 h3).symm⟩))
  ·
    have k1 : 1 ≤ s.kind := by simp at h3; omega
    have k2 : s.kind ≤ 12 := by simp at h3; omega
    refine xp_seq rfl ?_; refine xp_draw (idx := [0, 2, 1, 3, 4]) rfl (by kernel_rfl) (by kernel_rfl) ?_; iterate 2 refine rp_lk rfl rfl rfl rfl rfl (rd_load rfl rfl (loadN_of (z := 17) (by kernel_rfl) (by kernel_rfl) (hl.get 0 rfl) rfl)) ?_
    refine rp_callL hl rfl rfl rfl rfl rfl rfl rfl (spec63 s k1 k2) ?_; rintro v S1 hk1 rfl hl; refine ⟨stays_of ⟨stays_load (X := True) rfl rfl (loadN_of (z := 17) (by kernel_rfl) (by kernel_rfl) (hl.get 0 rfl) rfl) (same_agg rfl (atoms_sign s)) rfl trivial, stays_load (X := True) rfl rfl (loadN_of (z := 17) (by kernel_rfl) (by kernel_rfl) (hl.get 0 rfl) rfl) (same_agg rfl (atoms_sign s)) rfl trivial, trivial⟩, ?_⟩
    refine rp_rd rfl rfl rfl rfl rfl (rd_bin rfl rfl rfl (neSign _ _ (keptS s (ub s.kind 0) (ub s.kind 1) (ub s.kind 2) (ub s.kind 3) (ub s.kind 4) (ub s.kind 5) (ub s.kind 6) (ub s.kind 7) (ub s.kind 8) (ub s.kind 9) (ub s.kind 10) (ub s.kind 11)) s)) ?_; refine rp_rd rfl rfl rfl rfl rfl (rd_assign rfl rfl) ?_; refine rp_end rfl ?_; refine xp_cond rfl rfl (fun h12 => ?_) (fun h12 => ?_)
    ·
      refine xp_seq rfl ?_; refine xp_region rfl (by kernel_rfl) ?_; refine re_rd rfl rfl rfl rfl (rd_assign rfl rfl) ?_; refine re_end rfl ?_; refine xp_ret rfl ?_
      refine blk_ret (thn_ret (done_ret (ress_tmp rfl rfl) ⟨hl.keep, congrArg (Value.int .i64) (one_2 h3 h12).symm⟩))
    ·
      refine xp_seq rfl (xe_toL hl [(17, .bool (ub s.kind 7 && (mensE s.mx s.md s.tm s.pr != 0))), (1, ptrTo B1 0)] ?_ ?_)
      ·
        refine xp_region rfl (by kernel_rfl) ?_; refine re_rd rfl rfl rfl rfl (rd_fieldAddr rfl rfl (fieldAddr_at Tryz.underlying54 rfl (by kernel_rfl))) ?_; refine re_rd rfl rfl rfl rfl (rd_load rfl rfl (load1_of (by kernel_rfl) (hl.get 0 rfl) rfl)) ?_; refine re_rd rfl rfl rfl rfl (rd_bin rfl rfl rfl rfl) ?_; refine re_rd rfl rfl rfl rfl (rd_move rfl rfl) ?_; refine re_bool (d := 21) rfl (fun h21 => ?_) (fun h21 => ?_)
        ·
          refine re_rd rfl rfl rfl rfl (rd_fieldAddr rfl rfl (fieldAddr_at Tryz.underlying54 rfl (by kernel_rfl))) ?_; refine re_rd rfl rfl rfl rfl (rd_load rfl rfl (loadN_of (z := 4) (by kernel_rfl) (by kernel_rfl) (hl.get 0 rfl) rfl)) ?_
          refine re_callL hl rfl rfl rfl rfl rfl rfl rfl (spec64 _ _ _ _) ?_; rintro v S1 hk1 rfl hl
          refine re_rd rfl rfl rfl rfl (rd_bin rfl rfl rfl rfl) ?_; refine re_rd rfl rfl rfl rfl (rd_pick_t rfl rfl rfl) ?_; refine re_rd rfl rfl rfl rfl (rd_assign rfl rfl) ?_; refine re_end rfl ?_
          exact ⟨rfl, ⟨bl (by rw [ub7 k1 k2]; simp only [h21, BLs]), rfl, trivial⟩, hl⟩
        ·
          iterate 4 refine re_pass rfl rfl rfl rfl ?_
          refine re_rd rfl rfl rfl rfl (rd_pick_f rfl rfl rfl) ?_; refine re_rd rfl rfl rfl rfl (rd_assign rfl rfl) ?_; refine re_end rfl ?_
          exact ⟨rfl, ⟨bl (by rw [ub7 k1 k2]; simp only [h21, BLs]), rfl, trivial⟩, hl⟩
      intro S1 hl
      refine xp_cond rfl rfl (fun h17 => ?_) (fun h17 => ?_)
      ·
        refine xp_seq rfl ?_; refine xp_region rfl (by kernel_rfl) ?_; refine re_rd rfl rfl rfl rfl (rd_assign rfl rfl) ?_; refine re_end rfl ?_; refine xp_ret rfl ?_
        refine blk_ret (thn_ret (done_ret (ress_tmp rfl rfl) ⟨hl.keep, congrArg (Value.int .i64) (one_3 h3 h12 h17).symm⟩))
      ·
        refine xp_seq rfl ?_; refine xp_region rfl (by kernel_rfl) ?_; refine re_rd rfl rfl rfl rfl (rd_load rfl rfl (loadN_of (z := 17) (by kernel_rfl) (by kernel_rfl) (hl.get 0 rfl) rfl)) ?_
        refine re_callL hl rfl rfl rfl rfl rfl rfl rfl (spec65 s k1 k2) ?_; rintro v S1 hk1 rfl hl
        refine re_rd rfl rfl rfl rfl (rd_un rfl rfl rfl) ?_; refine re_rd rfl rfl rfl rfl (rd_assign rfl rfl) ?_; refine re_end rfl ?_; refine xp_cond rfl rfl (fun h27 => ?_) (fun h27 => ?_)
        ·
          refine xp_seq rfl ?_; refine xp_region rfl (by kernel_rfl) ?_; refine re_rd rfl rfl rfl rfl (rd_assign rfl rfl) ?_; refine re_end rfl ?_; refine xp_ret rfl ?_
          refine blk_ret (thn_ret (done_ret (ress_tmp rfl rfl) ⟨hl.keep, congrArg (Value.int .i64) (one_4 h3 h12 h17 h27).symm⟩))
        ·
          refine xp_seq rfl (xe_toL hl [(31, .bool (s.oblique && s.last)), (1, ptrTo B1 0)] ?_ ?_)
          ·
            refine xp_region rfl (by kernel_rfl) ?_; refine re_rd rfl rfl rfl rfl (rd_fieldAddr rfl rfl (fieldAddr_at Tryz.underlying54 rfl (by kernel_rfl))) ?_; refine re_rd rfl rfl rfl rfl (rd_load rfl rfl (load1_of (by kernel_rfl) (hl.get 0 rfl) rfl)) ?_; refine re_rd rfl rfl rfl rfl (rd_move rfl rfl) ?_; refine re_bool (d := 34) rfl (fun h34 => ?_) (fun h34 => ?_)
            ·
              refine re_rd rfl rfl rfl rfl (rd_fieldAddr rfl rfl (fieldAddr_at Tryz.underlying54 rfl (by kernel_rfl))) ?_; refine re_rd rfl rfl rfl rfl (rd_load rfl rfl (load1_of (by kernel_rfl) (hl.get 0 rfl) rfl)) ?_; refine re_rd rfl rfl rfl rfl (rd_pick_t rfl rfl rfl) ?_; refine re_rd rfl rfl rfl rfl (rd_assign rfl rfl) ?_; refine re_end rfl ?_
              exact ⟨rfl, ⟨bl (by first | (simp [h34]; done) | (simp only [h34, BLs])), rfl, trivial⟩, hl⟩
            ·
              iterate 2 refine re_pass rfl rfl rfl rfl ?_
              refine re_rd rfl rfl rfl rfl (rd_pick_f rfl rfl rfl) ?_; refine re_rd rfl rfl rfl rfl (rd_assign rfl rfl) ?_; refine re_end rfl ?_
              exact ⟨rfl, ⟨bl (by first | (simp [h34]; done) | (simp only [h34, BLs])), rfl, trivial⟩, hl⟩
          intro S1 hl
          refine xp_cond rfl rfl (fun h31 => ?_) (fun h31 => ?_)
          ·
            refine xp_seq rfl ?_; refine xp_region rfl (by kernel_rfl) ?_; refine re_rd rfl rfl rfl rfl (rd_assign rfl rfl) ?_; refine re_end rfl ?_; refine xp_ret rfl ?_
            refine blk_ret (thn_ret (done_ret (ress_tmp rfl rfl) ⟨hl.keep, congrArg (Value.int .i64) (one_5 h3 h12 h17 h27 h31).symm⟩))
          ·
            refine xp_skip rfl ?_; refine xp_seq rfl ?_; refine xp_region rfl (by kernel_rfl) ?_; refine re_rd rfl rfl rfl rfl (rd_assign rfl rfl) ?_; refine re_end rfl ?_; refine xp_ret rfl ?_
            refine done_ret (ress_tmp rfl rfl) ⟨hl.keep, congrArg (Value.int .i64) (one_6 h3 h12 h17 h27 h31).symm⟩

theorem okc_ref (c : Int) : ((!(decide (97 ≤ c) && decide (c ≤ 122)) && !(decide (48 ≤ c) && decide (c ≤ 57))) && (c != 45)) = !okc c := by
  have e1 : decide (c < 97) = !decide (97 ≤ c) := by rw [Bool.eq_iff_iff]; simp
  have e2 : decide (c > 122) = !decide (c ≤ 122) := by rw [Bool.eq_iff_iff]; simp
  have e3 : decide (c < 48) = !decide (48 ≤ c) := by rw [Bool.eq_iff_iff]; simp
  have e4 : decide (c > 57) = !decide (c ≤ 57) := by rw [Bool.eq_iff_iff]; simp
  unfold okc
  rw [e1, e2, e3, e4, Bool.not_not]
  cases decide (97 ≤ c) <;> cases decide (c ≤ 122) <;> cases decide (48 ≤ c) <;> cases decide (c ≤ 57) <;> cases (c != 45) <;> rfl
theorem sameBytes_nil : ∀ l : List UInt8, sameBytes l [] = ((l.length : Int) == 0)
  | [] => rfl
  | a :: l => by
    show false = _
    symm
    simp
    omega
theorem nil_of {l : List UInt8} (h : (!sameBytes l []) = true) : ((l.length : Int) == 0) = false := by
  rw [sameBytes_nil] at h
  cases hb : ((l.length : Int) == 0) with
  | true => rw [hb] at h; cases h
  | false => rfl
theorem name_end {l : List UInt8} (h0 : ((l.length : Int) == 0) = false) (h1 : decide ((l.length : Int) ≤ 20) = true) (ha : (l.all fun c => okc c.toNat) = true) : (decide (97 ≤ hd0 l) && decide (hd0 l ≤ 122)) = nameF l := by
  have e1 : decide (hd0 l < 97) = !decide (97 ≤ hd0 l) := by rw [Bool.eq_iff_iff]; simp
  have e2 : decide (hd0 l > 122) = !decide (hd0 l ≤ 122) := by rw [Bool.eq_iff_iff]; simp
  have e3 : decide ((l.length : Int) > 20) = false := by have := of_decide_eq_true h1; rw [decide_eq_false_iff_not]; omega
  unfold nameF nameB
  rw [h0, e3, e1, e2, ha]
  cases decide (97 ≤ hd0 l) <;> cases decide (hd0 l ≤ 122) <;> rfl
theorem name_long {l : List UInt8} (h1 : decide ((l.length : Int) ≤ 20) = false) : false = nameF l := by
  have e3 : decide ((l.length : Int) > 20) = true := by have := of_decide_eq_false h1; rw [decide_eq_true_iff]; omega
  unfold nameF nameB
  rw [e3, Bool.or_true]
  rfl
theorem name_none {l : List UInt8} (h : (!sameBytes l []) = false) : false = nameF l := by
  rw [sameBytes_nil] at h
  have h0 : ((l.length : Int) == 0) = true := by cases hb : ((l.length : Int) == 0) with
    | true => rfl
    | false => rw [hb] at h; cases h
  unfold nameF nameB
  rw [h0]
  rfl
noncomputable def c43 : Code := Tryz.f43.body.getD .skip
theorem spec43 (s : ByteArray) (hlen : s.data.toList.length ≤ 1000) : CC Tryz.prog KK 43 [.string s] S (fun v S' => Keep S S' ∧ v = .bool (nameF s.data.toList)) := by
  refine cc_enter (c := c43) (n := 40) Tryz.func43 rfl rfl rfl (by kernel_rfl) rfl rfl ?_
  have hl := Hold.start S
  refine xp_seq rfl ?_; refine xp_region rfl (by kernel_rfl) ?_; refine re_rd rfl rfl rfl rfl (rd_assign rfl rfl) ?_; refine re_end rfl ?_; iterate 2 refine xp_seq rfl ?_
  refine xp_region rfl (by kernel_rfl) ?_; refine re_rd rfl rfl rfl rfl (rd_assign rfl rfl) ?_; refine re_end rfl ?_; refine xp_block rfl ?_
  -- LOOP
  refine xe_sub (L' := [(3, .int .i64 0), (0, .string s)]) ⟨rfl, rfl, trivial⟩ ?_
  refine xp_loop rfl (fun m Le S' => ∃ i : Nat, i ≤ s.data.toList.length ∧ m = s.data.toList.length - i ∧ SubE [(3, .int .i64 (i : Int)), (0, .string s)] Le ∧ (∀ j, j < i → ∀ c, nth s.data.toList j = some c → okc c.toNat = true) ∧ Hold S [S] S' []) ?_ (m := s.data.toList.length) ⟨0, by omega, rfl, ⟨rfl, rfl, trivial⟩, fun j hj => by omega, hl⟩
  clear hl; rintro m Le S' ⟨i, hi, rfl, hsub, hok, hl⟩; refine xe_sub hsub ?_
  iterate 2 refine xp_seq rfl ?_
  refine xp_region rfl (by kernel_rfl) ?_; iterate 2 refine re_rd rfl rfl rfl rfl (rd_move rfl rfl) ?_
  refine re_rd rfl rfl rfl rfl (rd_len rfl rfl (len_string Tryz.underlying9)) ?_; refine re_rd rfl rfl rfl rfl (rd_bin rfl rfl rfl rfl) ?_; refine re_end rfl ?_; refine xp_cond rfl rfl (fun h7 => ?_) (fun h7 => ?_)
  ·
    have hlt : i < s.data.toList.length := by have := of_decide_eq_true h7; omega
    obtain ⟨c, hc⟩ := nth_some hlt
    refine xp_skip rfl ?_; refine xp_seq rfl ?_; refine xp_block rfl ?_; refine xp_seq rfl (xe_toL hl [(27, .bool (!okc c.toNat)), (3, .int .i64 (i : Int)), (0, .string s)] ?_ ?_)
    ·
      refine xp_region rfl (by kernel_rfl) ?_; iterate 2 refine re_rd rfl rfl rfl rfl (rd_move rfl rfl) ?_
      refine re_rd rfl rfl rfl rfl (rd_index rfl rfl rfl (index_string Tryz.underlying9 (by omega) hc)) ?_
      refine re_callL hl rfl rfl rfl rfl rfl rfl rfl (spec60 _) ?_; rintro v S1 hk1 rfl hl
      refine re_rd rfl rfl rfl rfl (rd_un rfl rfl rfl) ?_; refine re_rd rfl rfl rfl rfl (rd_move rfl rfl) ?_; refine re_bool (d := 15) rfl (fun h15 => ?_) (fun h15 => ?_)
      ·
        iterate 2 refine re_rd rfl rfl rfl rfl (rd_move rfl rfl) ?_
        refine re_rd rfl rfl rfl rfl (rd_index rfl rfl rfl (index_string Tryz.underlying9 (by omega) hc)) ?_
        refine re_callL hl rfl rfl rfl rfl rfl rfl rfl (spec61 _) ?_; rintro v S1 hk1 rfl hl
        refine re_rd rfl rfl rfl rfl (rd_un rfl rfl rfl) ?_; refine re_rd rfl rfl rfl rfl (rd_pick_t rfl rfl rfl) ?_; refine re_rd rfl rfl rfl rfl (rd_move rfl rfl) ?_; refine re_bool (d := 22) rfl (fun h22 => ?_) (fun h22 => ?_)
        ·
          iterate 2 refine re_rd rfl rfl rfl rfl (rd_move rfl rfl) ?_
          refine re_rd rfl rfl rfl rfl (rd_index rfl rfl rfl (index_string Tryz.underlying9 (by omega) hc)) ?_; refine re_rd rfl rfl rfl rfl (rd_bin rfl rfl rfl rfl) ?_; refine re_rd rfl rfl rfl rfl (rd_pick_t rfl rfl rfl) ?_; refine re_end rfl ?_
          exact ⟨rfl, ⟨bl (by rw [← okc_ref]; simp only [h22, h15, BLs]), rfl, rfl, trivial⟩, hl⟩
        ·
          iterate 4 refine re_pass rfl rfl rfl rfl ?_
          refine re_rd rfl rfl rfl rfl (rd_pick_f rfl rfl rfl) ?_; refine re_end rfl ?_
          exact ⟨rfl, ⟨bl (by rw [← okc_ref]; simp only [h22, h15, BLs]), rfl, rfl, trivial⟩, hl⟩
      ·
        iterate 5 refine re_pass rfl rfl rfl rfl ?_
        refine re_rd rfl rfl rfl rfl (rd_pick_f rfl rfl rfl) ?_; refine re_rd rfl rfl rfl rfl (rd_move rfl rfl) ?_; iterate 4 refine re_pass rfl rfl rfl rfl ?_
        refine re_rd rfl rfl rfl rfl (rd_pick_f rfl rfl rfl) ?_; refine re_end rfl ?_
        exact ⟨rfl, ⟨bl (by rw [← okc_ref]; simp only [h15, BLs]), rfl, rfl, trivial⟩, hl⟩
    intro S1 hl
    refine xp_cond rfl rfl (fun h27 => ?_) (fun h27 => ?_)
    ·
      refine xp_seq rfl ?_; refine xp_region rfl (by kernel_rfl) ?_; refine re_rd rfl rfl rfl rfl (rd_assign rfl rfl) ?_; refine re_end rfl ?_; refine xp_ret rfl ?_
      refine blk_ret (thn_ret (round_ret (blk_ret (thn_ret (done_ret (ress_tmp rfl rfl) ⟨hl.keep, congrArg Value.bool (by unfold nameF; rw [all_no hc (by simpa using h27), Bool.and_false])⟩)))))
    ·
      refine xp_skip rfl ?_; refine xp_region rfl (by kernel_rfl) ?_; refine re_rd rfl rfl rfl rfl (rd_move rfl rfl) ?_; refine re_rd rfl rfl rfl rfl (rd_bin rfl rfl rfl rfl) ?_; refine re_rd rfl rfl rfl rfl (rd_assign rfl rfl) ?_; refine re_end rfl ?_
      refine ⟨s.data.toList.length - (i + 1), by omega, i + 1, by omega, rfl, ⟨congrArg some (congrArg (Value.int .i64) (IntWalk.i64_in _ (by omega))), rfl, trivial⟩, fun j hj y hy => ?_, hl⟩
      rcases Nat.lt_succ_iff_lt_or_eq.1 hj with hj | rfl
      · exact hok j hj y hy
      · rw [hc] at hy; cases hy; simpa using h27
  ·
    refine xp_exit rfl ?_; refine xp_seq rfl ?_; refine xp_region rfl (by kernel_rfl) ?_; refine re_rd rfl rfl rfl rfl (rd_move rfl rfl) ?_; refine re_rd rfl rfl rfl rfl (rd_bin rfl rfl rfl rfl) ?_; refine re_rd rfl rfl rfl rfl (rd_move rfl rfl) ?_; refine re_bool (d := 30) rfl (fun h30 => ?_) (fun h30 => ?_)
    ·
      refine re_rd rfl rfl rfl rfl (rd_move rfl rfl) ?_; refine re_rd rfl rfl rfl rfl (rd_len rfl rfl (len_string Tryz.underlying9)) ?_; refine re_rd rfl rfl rfl rfl (rd_bin rfl rfl rfl rfl) ?_; refine re_rd rfl rfl rfl rfl (rd_pick_t rfl rfl rfl) ?_; refine re_rd rfl rfl rfl rfl (rd_move rfl rfl) ?_; refine re_bool (d := 35) rfl (fun h35 => ?_) (fun h35 => ?_)
      ·
        refine re_rd rfl rfl rfl rfl (rd_move rfl rfl) ?_; refine re_rd rfl rfl rfl rfl (rd_index rfl rfl rfl (index_string Tryz.underlying9 (Int.le_refl 0) (nth_hd (nil_of h30)))) ?_
        refine re_callL hl rfl rfl rfl rfl rfl rfl rfl (spec60 _) ?_; rintro v S1 hk1 rfl hl
        refine re_rd rfl rfl rfl rfl (rd_pick_t rfl rfl rfl) ?_; refine re_rd rfl rfl rfl rfl (rd_assign rfl rfl) ?_; refine re_end rfl ?_; refine xp_ret rfl ?_
        refine done_ret (ress_tmp rfl rfl) ⟨hl.keep, congrArg Value.bool (name_end (nil_of h30) h35 (all_yes fun j hj c hc => hok j (by have := of_decide_eq_false h7; omega) c hc))⟩
      ·
        iterate 3 refine re_pass rfl rfl rfl rfl ?_
        refine re_rd rfl rfl rfl rfl (rd_pick_f rfl rfl rfl) ?_; refine re_rd rfl rfl rfl rfl (rd_assign rfl rfl) ?_; refine re_end rfl ?_; refine xp_ret rfl ?_
        refine done_ret (ress_tmp rfl rfl) ⟨hl.keep, congrArg Value.bool (name_long h35)⟩
    ·
      iterate 3 refine re_pass rfl rfl rfl rfl ?_
      refine re_rd rfl rfl rfl rfl (rd_pick_f rfl rfl rfl) ?_; refine re_rd rfl rfl rfl rfl (rd_move rfl rfl) ?_; iterate 3 refine re_pass rfl rfl rfl rfl ?_
      refine re_rd rfl rfl rfl rfl (rd_pick_f rfl rfl rfl) ?_; refine re_rd rfl rfl rfl rfl (rd_assign rfl rfl) ?_; refine re_end rfl ?_; refine xp_ret rfl ?_
      refine done_ret (ress_tmp rfl rfl) ⟨hl.keep, congrArg Value.bool (name_none h30)⟩

end Go.Proofs.YtgnhcamhcnkbfaaGreatDoor

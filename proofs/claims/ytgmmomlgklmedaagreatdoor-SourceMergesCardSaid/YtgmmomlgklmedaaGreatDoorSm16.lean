/-
  SourceMerges returns true.
-/
import Derived.Test.YtgmmomlgklmedaaGreatDoorSm15
namespace Go.Proofs.YtgmmomlgklmedaaGreatDoor
open Go.Cm Go
set_option maxRecDepth 100000
variable {S : St}
noncomputable def c3 : Code := Tryz.f3.body.getD .skip
theorem spec3 (n1 n2 : ByteArray) (a1 a2 : Option Addr) (cap1 cap2 : Nat) (L1 L2 : List Spt) (hF : Fresh S) (hG : Gl S) (hv1 : Spots S (.slice a1 L1.length cap1) L1) (hv2 : Spots S (.slice a2 L2.length cap2) L2) : CC Tryz.prog KK 3 [aggL [.string n1, .slice a1 L1.length cap1], aggL [.string n2, .slice a2 L2.length cap2]] S (fun v S' => Keep S S' ∧ v = .bool true) := by
  refine cc_enter (c := c3) (n := 57) Tryz.func3 rfl rfl rfl (by kernel_rfl) rfl rfl ?_
  have hl := Hold.start S
  refine xp_seq rfl ?_
  refine xp_region rfl (by kernel_rfl) ?_
  refine re_boxL hl rfl rfl rfl rfl rfl rfl ?_; intro B2 S2 hl
  refine re_boxL hl rfl rfl rfl rfl rfl rfl ?_; intro B3 S3 hl
  refine re_rd rfl rfl rfl rfl (rd_assign rfl rfl) ?_
  refine re_end rfl ?_
  refine xp_seq rfl ?_
  refine xp_seq rfl (xe_toL hl [(18, .bool (!smallF n1.data.toList L1 80 || !smallF n2.data.toList L2 80)), (3, ptrTo B3 0), (2, ptrTo B2 0)] ?_ ?_)
  ·
    refine xp_region rfl (by kernel_rfl) ?_
    refine re_rd rfl rfl rfl rfl (rd_load rfl rfl (loadN_of (z := 2) (by kernel_rfl) (by kernel_rfl) (hl.get 1 rfl) rfl)) ?_
    refine re_callL hl rfl rfl rfl rfl rfl rfl rfl (spec4 n1 a1 cap1 L1 80 (hv1.move (hl.since 0 rfl))) ?_; rintro v S1 hk1 rfl hl
    refine re_rd rfl rfl rfl rfl (rd_un rfl rfl rfl) ?_
    refine re_rd rfl rfl rfl rfl (rd_move rfl rfl) ?_
    refine re_bool (d := 14) rfl (fun h14 => ?_) (fun h14 => ?_)
    ·
      refine re_pass rfl rfl rfl rfl ?_
      refine re_pass rfl rfl rfl rfl ?_
      refine re_pass rfl rfl rfl rfl ?_
      refine re_rd rfl rfl rfl rfl (rd_pick_t rfl rfl rfl) ?_
      refine re_end rfl ?_
      exact ⟨rfl, ⟨bl (by first | (simp [h14]; done) | (simp only [h14, BLs])), rfl, rfl, trivial⟩, hl⟩
    ·
      refine re_rd rfl rfl rfl rfl (rd_load rfl rfl (loadN_of (z := 2) (by kernel_rfl) (by kernel_rfl) (hl.get 0 rfl) rfl)) ?_
      refine re_callL hl rfl rfl rfl rfl rfl rfl rfl (spec4 n2 a2 cap2 L2 80 (hv2.move (hl.since 0 rfl))) ?_; rintro v S1 hk1 rfl hl
      refine re_rd rfl rfl rfl rfl (rd_un rfl rfl rfl) ?_
      refine re_rd rfl rfl rfl rfl (rd_pick_f rfl rfl rfl) ?_
      refine re_end rfl ?_
      exact ⟨rfl, ⟨bl (by first | (simp [h14]; done) | (simp only [h14, BLs])), rfl, rfl, trivial⟩, hl⟩
  intro S1 hl
  refine xp_cond rfl rfl (fun h18 => ?_) (fun h18 => ?_)
  ·
    refine xp_seq rfl ?_
    refine xp_region rfl (by kernel_rfl) ?_
    refine re_callL hl rfl rfl rfl rfl rfl rfl rfl (cc_known rfl) ?_; rintro v S1 hk1 rfl hl
    refine re_rd rfl rfl rfl rfl (rd_assign rfl rfl) ?_
    refine re_end rfl ?_
    refine xp_ret rfl ?_
    refine thn_ret (done_ret (ress_tmp rfl rfl) ⟨hl.keep, rfl⟩)
  ·
    have hsm : smallF n1.data.toList L1 80 = true ∧ smallF n2.data.toList L2 80 = true := by
      rw [Bool.or_eq_false_iff] at h18
      exact ⟨by simpa using h18.1, by simpa using h18.2⟩
    obtain ⟨hl1, hs1⟩ := small_le hsm.1
    obtain ⟨hl2, hs2⟩ := small_le hsm.2
    have hm1 := small_name hsm.1
    have hm2 := small_name hsm.2
    obtain ⟨hb1, hb2⟩ := mergeR_bounds n1 n2 L1 L2
    refine xp_skip rfl ?_
    refine xp_seq rfl ?_
    refine xp_draw (idx := [0, 2, 4, 5, 1, 3, 6, 7]) rfl (by kernel_rfl) (by kernel_rfl) ?_
    refine rp_lk rfl rfl rfl rfl rfl (rd_load rfl rfl (loadN_of (z := 2) (by kernel_rfl) (by kernel_rfl) (hl.get 1 rfl) rfl)) ?_
    refine rp_lk rfl rfl rfl rfl rfl (rd_load rfl rfl (loadN_of (z := 2) (by kernel_rfl) (by kernel_rfl) (hl.get 0 rfl) rfl)) ?_
    refine rp_allocL hF hl rfl rfl rfl rfl rfl (z := [.string noName, .slice none 0 0]) (by kernel_rfl) ?_; intro B5 S5 hl
    refine rp_allocL hF hl rfl rfl rfl rfl rfl (z := [.string noName, .slice none 0 0]) (by kernel_rfl) ?_; intro B6 S6 hl
    refine rp_callL hl rfl rfl rfl rfl rfl rfl rfl (spec6 n1 a1 cap1 L1 (by omega) (fun x hx => Nat.le_trans (hs1 x hx) (by omega)) (hl.keep.3 hF) (hv1.move (hl.since 0 rfl))) ?_; rintro v S1 hk1 hg hl; refine ⟨stays_of ⟨stays_new (X := True) rfl (hl.get 0 rfl) (sameL_atoms _ _ (by decide) (atoms_cons (atom_string _) (atoms_cons (atom_slice _ _ _) atoms_nil))) trivial, stays_new (X := True) rfl (hl.get 1 rfl) (sameL_atoms _ _ (by decide) (atoms_cons (atom_string _) (atoms_cons (atom_slice _ _ _) atoms_nil))) trivial, stays_load (X := True) rfl rfl (loadN_of (z := 2) (by kernel_rfl) (by kernel_rfl) (hl.get 2 rfl) rfl) (same_agg rfl (atoms_cons (atom_string _) (atoms_cons (atom_slice _ _ _) atoms_nil))) rfl trivial, stays_load (X := True) rfl rfl (loadN_of (z := 2) (by kernel_rfl) (by kernel_rfl) (hl.get 3 rfl) rfl) (same_agg rfl (atoms_cons (atom_string _) (atoms_cons (atom_slice _ _ _) atoms_nil))) rfl trivial, trivial⟩, ?_⟩
    obtain ⟨ga1, gc1, rfl, hg1⟩ := src_is hg
    have hl := hl.mark
    refine rp_callL hl rfl rfl rfl rfl rfl rfl rfl (spec6 n2 a2 cap2 L2 (by omega) (fun x hx => Nat.le_trans (hs2 x hx) (by omega)) (hl.keep.3 hF) (hv2.move (hl.since 1 rfl))) ?_; rintro v S1 hk1 hg hl; refine ⟨stays_of (allE_left ⟨stays_new (X := True) rfl (hl.get 0 rfl) (sameL_atoms _ _ (by decide) (atoms_cons (atom_string _) (atoms_cons (atom_slice _ _ _) atoms_nil))) trivial, stays_new (X := True) rfl (hl.get 1 rfl) (sameL_atoms _ _ (by decide) (atoms_cons (atom_string _) (atoms_cons (atom_slice _ _ _) atoms_nil))) trivial, stays_load (X := True) rfl rfl (loadN_of (z := 2) (by kernel_rfl) (by kernel_rfl) (hl.get 2 rfl) rfl) (same_agg rfl (atoms_cons (atom_string _) (atoms_cons (atom_slice _ _ _) atoms_nil))) rfl trivial, stays_load (X := True) rfl rfl (loadN_of (z := 2) (by kernel_rfl) (by kernel_rfl) (hl.get 3 rfl) rfl) (same_agg rfl (atoms_cons (atom_string _) (atoms_cons (atom_slice _ _ _) atoms_nil))) rfl trivial, trivial⟩), ?_⟩
    obtain ⟨ga2, gc2, rfl, hg2⟩ := src_is hg
    have hl := hl.mark
    refine rp_storeL hl 1 rfl rfl rfl rfl rfl rfl rfl (by kernel_rfl) rfl ?_; intro S1 hl; refine ⟨stays_all (by kernel_rfl), ?_⟩
    refine rp_storeL hl 0 rfl rfl rfl rfl rfl rfl rfl (by kernel_rfl) rfl ?_; intro S1 hl; refine ⟨stays_all (by kernel_rfl), ?_⟩
    refine rp_end rfl ?_
    refine xp_seq rfl ?_
    refine xp_region rfl (by kernel_rfl) ?_
    refine re_rd rfl rfl rfl rfl (rd_load rfl rfl (loadN_of (z := 2) (by kernel_rfl) (by kernel_rfl) (hl.get 1 rfl) rfl)) ?_
    refine re_rd rfl rfl rfl rfl (rd_load rfl rfl (loadN_of (z := 2) (by kernel_rfl) (by kernel_rfl) (hl.get 0 rfl) rfl)) ?_
    refine re_callL hl rfl rfl rfl rfl rfl rfl rfl (spec7 n1 n2 ga1 ga2 gc1 gc2 L1 L2 (by omega) (by omega) (fun x hx => Nat.le_trans (hs1 x hx) (by omega)) (fun x hx => Nat.le_trans (hs2 x hx) (by omega)) (hl.keep.3 hF) (hG.keep hl.keep) (hg1.move (hl.since 1 rfl)) (hg2.move (hl.since 0 rfl))) ?_; rintro v S1 hk1 ⟨w, rfl, hw⟩ hl
    obtain ⟨wa, wc, rfl, hw1⟩ := src_is hw
    have hl := hl.mark
    refine re_rd rfl rfl rfl rfl (rd_move rfl rfl) ?_
    refine re_rd rfl rfl rfl rfl (rd_extract rfl rfl rfl) ?_
    refine re_rd rfl rfl rfl rfl (rd_extract rfl rfl rfl) ?_
    refine re_allocL hl rfl rfl rfl rfl rfl (z := [.string noName, .slice none 0 0]) (by kernel_rfl) ?_; intro B7 S7 hl
    refine re_storeL hl 0 rfl rfl rfl rfl rfl rfl rfl (by kernel_rfl) rfl ?_; intro S1 hl
    refine re_rd rfl rfl rfl rfl (rd_assign rfl rfl) ?_
    refine re_end rfl ?_
    refine xp_seq rfl ?_
    refine xp_region rfl (by kernel_rfl) ?_
    refine re_rd rfl rfl rfl rfl (rd_load rfl rfl (loadN_of (z := 2) (by kernel_rfl) (by kernel_rfl) (hl.get 4 rfl) rfl)) ?_
    refine re_rd rfl rfl rfl rfl (rd_load rfl rfl (loadN_of (z := 2) (by kernel_rfl) (by kernel_rfl) (hl.get 3 rfl) rfl)) ?_
    refine re_callL hl rfl rfl rfl rfl rfl rfl rfl (spec8 n1 n2 a1 a2 cap1 cap2 L1 L2 (by omega) (by omega) (by omega) (by omega) (fun x hx => Nat.le_trans (hs1 x hx) (by omega)) (fun x hx => Nat.le_trans (hs2 x hx) (by omega)) (hl.keep.3 hF) (hv1.move (hl.since 3 rfl)) (hv2.move (hl.since 3 rfl))) ?_; rintro v S1 hk1 ⟨w, rfl, hw⟩ hl
    obtain ⟨ua, uc, rfl, hu1⟩ := src_is hw
    have hl := hl.mark
    refine re_rd rfl rfl rfl rfl (rd_move rfl rfl) ?_
    refine re_rd rfl rfl rfl rfl (rd_extract rfl rfl rfl) ?_
    refine re_rd rfl rfl rfl rfl (rd_extract rfl rfl rfl) ?_
    refine re_allocL hl rfl rfl rfl rfl rfl (z := [.string noName, .slice none 0 0]) (by kernel_rfl) ?_; intro B9 S9 hl
    refine re_storeL hl 0 rfl rfl rfl rfl rfl rfl rfl (by kernel_rfl) rfl ?_; intro S1 hl
    refine re_rd rfl rfl rfl rfl (rd_assign rfl rfl) ?_
    refine re_end rfl ?_
    refine xp_seq rfl ?_
    refine xp_region rfl (by kernel_rfl) ?_
    refine re_rd rfl rfl rfl rfl (rd_load rfl rfl (loadN_of (z := 2) (by kernel_rfl) (by kernel_rfl) (hl.get 1 rfl) rfl)) ?_
    refine re_rd rfl rfl rfl rfl (rd_load rfl rfl (loadN_of (z := 2) (by kernel_rfl) (by kernel_rfl) (hl.get 0 rfl) rfl)) ?_
    refine re_callL hl rfl rfl rfl rfl rfl rfl rfl (spec9 _ _ wa ua wc uc (mergeR n1 n2 L1 L2).2.2 (mergeR n1 n2 L1 L2).2.2 (by omega) (fun x hx => Nat.le_trans (hb2 x hx) (by omega)) (hw1.move (hl.since 1 rfl)) (hu1.move (hl.since 0 rfl))) ?_; rintro v S1 hk1 rfl hl
    refine re_rd rfl rfl rfl rfl (rd_move rfl rfl) ?_
    refine re_bool (d := 39) rfl (fun h39 => ?_) (fun h39 => ?_)
    ·
      refine re_rd rfl rfl rfl rfl (rd_move rfl rfl) ?_
      refine re_rd rfl rfl rfl rfl (rd_move rfl rfl) ?_
      refine re_rd rfl rfl rfl rfl (rd_bin rfl rfl rfl rfl) ?_
      refine re_rd rfl rfl rfl rfl (rd_pick_t rfl rfl rfl) ?_
      refine re_rd rfl rfl rfl rfl (rd_move rfl rfl) ?_
      refine re_bool (d := 44) rfl (fun h44 => ?_) (fun h44 => ?_)
      ·
        refine re_rd rfl rfl rfl rfl (rd_load rfl rfl (loadN_of (z := 2) (by kernel_rfl) (by kernel_rfl) (hl.get 3 rfl) rfl)) ?_
        refine re_rd rfl rfl rfl rfl (rd_load rfl rfl (loadN_of (z := 2) (by kernel_rfl) (by kernel_rfl) (hl.get 5 rfl) rfl)) ?_
        refine re_callL hl rfl rfl rfl rfl rfl rfl rfl (spec9 n1 n1 ga1 a1 gc1 cap1 L1 L1 (by omega) (fun x hx => Nat.le_trans (hs1 x hx) (by omega)) (hg1.move (hl.since 3 rfl)) (hv1.move (hl.since 4 rfl))) ?_; rintro v S1 hk1 rfl hl
        refine re_rd rfl rfl rfl rfl (rd_pick_t rfl rfl rfl) ?_
        refine re_rd rfl rfl rfl rfl (rd_move rfl rfl) ?_
        refine re_bool (d := 49) rfl (fun h49 => ?_) (fun h49 => ?_)
        ·
          refine re_rd rfl rfl rfl rfl (rd_load rfl rfl (loadN_of (z := 2) (by kernel_rfl) (by kernel_rfl) (hl.get 2 rfl) rfl)) ?_
          refine re_rd rfl rfl rfl rfl (rd_load rfl rfl (loadN_of (z := 2) (by kernel_rfl) (by kernel_rfl) (hl.get 4 rfl) rfl)) ?_
          refine re_callL hl rfl rfl rfl rfl rfl rfl rfl (spec9 n2 n2 ga2 a2 gc2 cap2 L2 L2 (by omega) (fun x hx => Nat.le_trans (hs2 x hx) (by omega)) (hg2.move (hl.since 2 rfl)) (hv2.move (hl.since 4 rfl))) ?_; rintro v S1 hk1 rfl hl
          refine re_rd rfl rfl rfl rfl (rd_pick_t rfl rfl rfl) ?_
          refine re_rd rfl rfl rfl rfl (rd_move rfl rfl) ?_
          refine re_bool (d := 54) rfl (fun h54 => ?_) (fun h54 => ?_)
          ·
            refine re_callL hl rfl rfl rfl rfl rfl rfl rfl (cc_known rfl) ?_; rintro v S1 hk1 rfl hl
            refine re_rd rfl rfl rfl rfl (rd_pick_t rfl rfl rfl) ?_
            refine re_rd rfl rfl rfl rfl (rd_assign rfl rfl) ?_
            refine re_end rfl ?_
            refine xp_ret rfl ?_
            refine done_ret (ress_tmp rfl rfl) ⟨hl.keep, rfl⟩
          ·
            refine re_pass rfl rfl rfl rfl ?_
            refine re_rd rfl rfl rfl rfl (rd_pick_f rfl rfl rfl) ?_
            refine re_rd rfl rfl rfl rfl (rd_assign rfl rfl) ?_
            refine re_end rfl ?_
            refine xp_ret rfl ?_
            refine done_ret (ress_tmp rfl rfl) ⟨hl.keep, by first | (rw [sameF_self] at h54; cases h54) | (simp at h54)⟩
        ·
          refine re_pass rfl rfl rfl rfl ?_
          refine re_pass rfl rfl rfl rfl ?_
          refine re_pass rfl rfl rfl rfl ?_
          refine re_rd rfl rfl rfl rfl (rd_pick_f rfl rfl rfl) ?_
          refine re_rd rfl rfl rfl rfl (rd_move rfl rfl) ?_
          refine re_pass rfl rfl rfl rfl ?_
          refine re_rd rfl rfl rfl rfl (rd_pick_f rfl rfl rfl) ?_
          refine re_rd rfl rfl rfl rfl (rd_assign rfl rfl) ?_
          refine re_end rfl ?_
          refine xp_ret rfl ?_
          refine done_ret (ress_tmp rfl rfl) ⟨hl.keep, by first | (rw [sameF_self] at h49; cases h49) | (simp at h49)⟩
      ·
        refine re_pass rfl rfl rfl rfl ?_
        refine re_pass rfl rfl rfl rfl ?_
        refine re_pass rfl rfl rfl rfl ?_
        refine re_rd rfl rfl rfl rfl (rd_pick_f rfl rfl rfl) ?_
        refine re_rd rfl rfl rfl rfl (rd_move rfl rfl) ?_
        refine re_pass rfl rfl rfl rfl ?_
        refine re_pass rfl rfl rfl rfl ?_
        refine re_pass rfl rfl rfl rfl ?_
        refine re_rd rfl rfl rfl rfl (rd_pick_f rfl rfl rfl) ?_
        refine re_rd rfl rfl rfl rfl (rd_move rfl rfl) ?_
        refine re_pass rfl rfl rfl rfl ?_
        refine re_rd rfl rfl rfl rfl (rd_pick_f rfl rfl rfl) ?_
        refine re_rd rfl rfl rfl rfl (rd_assign rfl rfl) ?_
        refine re_end rfl ?_
        refine xp_ret rfl ?_
        refine done_ret (ress_tmp rfl rfl) ⟨hl.keep, by first | (rw [sameF_self] at h44; cases h44) | (simp at h44)⟩
    ·
      refine re_pass rfl rfl rfl rfl ?_
      refine re_pass rfl rfl rfl rfl ?_
      refine re_pass rfl rfl rfl rfl ?_
      refine re_rd rfl rfl rfl rfl (rd_pick_f rfl rfl rfl) ?_
      refine re_rd rfl rfl rfl rfl (rd_move rfl rfl) ?_
      refine re_pass rfl rfl rfl rfl ?_
      refine re_pass rfl rfl rfl rfl ?_
      refine re_pass rfl rfl rfl rfl ?_
      refine re_rd rfl rfl rfl rfl (rd_pick_f rfl rfl rfl) ?_
      refine re_rd rfl rfl rfl rfl (rd_move rfl rfl) ?_
      refine re_pass rfl rfl rfl rfl ?_
      refine re_pass rfl rfl rfl rfl ?_
      refine re_pass rfl rfl rfl rfl ?_
      refine re_rd rfl rfl rfl rfl (rd_pick_f rfl rfl rfl) ?_
      refine re_rd rfl rfl rfl rfl (rd_move rfl rfl) ?_
      refine re_pass rfl rfl rfl rfl ?_
      refine re_rd rfl rfl rfl rfl (rd_pick_f rfl rfl rfl) ?_
      refine re_rd rfl rfl rfl rfl (rd_assign rfl rfl) ?_
      refine re_end rfl ?_
      refine xp_ret rfl ?_
      refine done_ret (ress_tmp rfl rfl) ⟨hl.keep, by first | (rw [sameF_self] at h39; cases h39) | (simp at h39)⟩

end Go.Proofs.YtgmmomlgklmedaaGreatDoor

/-
  SourceAgrees returns true.
-/
import Derived.Test.YtgnhcamhcnkbfaaGreatDoorSm27
namespace Go.Proofs.YtgnhcamhcnkbfaaGreatDoor
open Go.Cm Go
set_option maxRecDepth 100000
variable {S : St}
theorem src_is {S : St} {v : Value} {nm : ByteArray} {L : List Spt} (h : SrcAt S v nm L) : ∃ a cap, v = aggL [.string nm, .slice a L.length cap] ∧ Spots S (.slice a L.length cap) L := by
  obtain ⟨sv, rfl, hs⟩ := h
  obtain ⟨a, cap, rfl⟩ := hs.is
  exact ⟨a, cap, rfl, hs⟩
theorem cc_known {P : Program} {K : Known} {f : FuncId} {args : List Value} {S : St} {v : Value} (h : K.call f args S = some v) : CC P K f args S fun w S' => Keep S S' ∧ w = v := ⟨0, v, S, by unfold enterF; rw [h], Keep.refl S, rfl⟩
theorem small_name {nm : List UInt8} {L : List Spt} {most : Int} (h : smallF nm L most = true) : nm.length ≤ 100 := by
  unfold smallF bigB at h
  simp at h
  omega
theorem sameF_self (n : List UInt8) (L : List Spt) : sameF n n L L = true := by
  unfold sameF
  rw [sameBytes_refl, decide_eq_true rfl]; rfl
theorem chooseF_len : ∀ (L : List Spt) (C : List Sg), (chooseF L C).length = L.length
  | [], _ => by unfold chooseF; rfl
  | x :: r, [] => by rw [choose_n, List.length_cons, List.length_cons, chooseF_len r []]
  | x :: r, y :: l => by
    rw [choose_c]
    cases (canB r l && decide (y ∈ x.signs)) with
    | true => rw [cond_true, List.length_cons, List.length_cons, chooseF_len r l]
    | false => rw [cond_false, List.length_cons, List.length_cons, chooseF_len r (y :: l)]
theorem choiceF_le (n1 n2 : List UInt8) (L : List Spt) (C : List Sg) : (choiceF n1 n2 L C).1.length ≤ L.length := by
  show (findF n1 n2 L C).1.length ≤ _
  cases c1 : ((checkF n1 L).1 != 0) with
  | true => rw [findF_1 c1]; exact Nat.zero_le _
  | false =>
    cases c2 : ((partE n2 C).1 != 0) with
    | true => rw [findF_2 c1 c2]; exact Nat.zero_le _
    | false =>
      rw [findF_3 c1 c2]
      show (searchF n1 n2 L C).length ≤ _
      unfold searchF
      cases difN n1 n2 L C with
      | true => exact Nat.zero_le _
      | false => exact Nat.le_of_eq (chooseF_len L C)
theorem ofR_le (nm : ByteArray) (C : List Sg) : (ofR nm C).2.2.length ≤ C.length ∧ ∀ x, x ∈ (ofR nm C).2.2 → x.signs.length ≤ 1000 := by
  cases c1 : ((partE nm.data.toList C).1 != 0) with
  | true => rw [ofR_1 c1]; exact ⟨Nat.zero_le _, fun x hx => (List.not_mem_nil hx).elim⟩
  | false =>
    rw [ofR_2 c1]
    refine ⟨by simp, fun x hx => ?_⟩
    obtain ⟨s, _, rfl⟩ := List.mem_map.1 hx
    show 1 ≤ 1000
    omega
noncomputable def c3 : Code := Tryz.f3.body.getD .skip
theorem spec3 (n1 n2 : ByteArray) (a1 a2 : Option Addr) (cap1 cap2 : Nat) (L : List Spt) (C : List Sg) (hF : Fresh S) (hG : Gl S) (hv : Spots S (.slice a1 L.length cap1) L) (hw : Signs S (.slice a2 C.length cap2) C) : CC Tryz.prog KK 3 [aggL [.string n1, .slice a1 L.length cap1], aggL [.string n2, .slice a2 C.length cap2]] S (fun v S' => Keep S S' ∧ v = .bool true) := by
  refine cc_enter (c := c3) (n := 91) Tryz.func3 rfl rfl rfl (by kernel_rfl) rfl rfl ?_
  have hl := Hold.start S
  refine xp_seq rfl ?_; refine xp_region rfl (by kernel_rfl) ?_; refine re_boxL hl rfl rfl rfl rfl rfl rfl ?_; intro B2 S2 hl; refine re_boxL hl rfl rfl rfl rfl rfl rfl ?_; intro B3 S3 hl; refine re_rd rfl rfl rfl rfl (rd_assign rfl rfl) ?_; refine re_end rfl ?_; refine xe_sub (L' := [(3, ptrTo B3 0), (2, ptrTo B2 0)]) ⟨rfl, rfl, trivial⟩ ?_; refine xp_seq rfl ?_; refine xp_seq rfl (xe_toE hl 24 (.bool (!smallF n1.data.toList L 80 || !lightF n2.data.toList C.length 80)) ?_ rfl ?_)
  ·
    refine xp_region rfl (by kernel_rfl) ?_; refine re_rd rfl rfl rfl rfl (rd_load rfl rfl (loadN_of (z := 2) (by kernel_rfl) (by kernel_rfl) (hl.get 1 rfl) rfl)) ?_
    refine re_callL hl rfl rfl rfl rfl rfl rfl rfl (spec4 n1 a1 cap1 L 80 (hv.move (hl.since 0 rfl))) ?_; rintro v S1 hk1 rfl hl
    refine re_rd rfl rfl rfl rfl (rd_un rfl rfl rfl) ?_; refine re_rd rfl rfl rfl rfl (rd_move rfl rfl) ?_; refine re_bool (d := 20) rfl (fun h20 => ?_) (fun h20 => ?_)
    ·
      iterate 3 refine re_pass rfl rfl rfl rfl ?_
      refine re_rd rfl rfl rfl rfl (rd_pick_t rfl rfl rfl) ?_; refine re_end rfl ?_
      exact ⟨rfl, bl (by rw [h20]; rfl), by repeat (first | exact subL_refl _ | refine subL_skip rfl ?_), hl⟩
    ·
      refine re_rd rfl rfl rfl rfl (rd_load rfl rfl (loadN_of (z := 2) (by kernel_rfl) (by kernel_rfl) (hl.get 0 rfl) rfl)) ?_
      refine re_callL hl rfl rfl rfl rfl rfl rfl rfl (spec5 n2 a2 cap2 C 80) ?_; rintro v S1 hk1 rfl hl
      refine re_rd rfl rfl rfl rfl (rd_un rfl rfl rfl) ?_; refine re_rd rfl rfl rfl rfl (rd_pick_f rfl rfl rfl) ?_; refine re_end rfl ?_
      exact ⟨rfl, bl (by rw [h20]; rfl), by repeat (first | exact subL_refl _ | refine subL_skip rfl ?_), hl⟩
  intro S1 hl
  refine xp_cond rfl rfl (fun h24 => ?_) (fun h24 => ?_)
  ·
    refine xp_seq rfl ?_; refine xp_region rfl (by kernel_rfl) ?_
    refine re_callL hl rfl rfl rfl rfl rfl rfl rfl (cc_known rfl) ?_; rintro v S1 hk1 rfl hl
    refine re_rd rfl rfl rfl rfl (rd_assign rfl rfl) ?_; refine re_end rfl ?_; refine xp_ret rfl ?_
    refine thn_ret (done_ret (ress_tmp rfl rfl) ⟨hl.keep, rfl⟩)
  ·
    have hsm : smallF n1.data.toList L 80 = true ∧ lightF n2.data.toList C.length 80 = true := by
      rw [Bool.or_eq_false_iff] at h24
      exact ⟨by simpa using h24.1, by simpa using h24.2⟩
    obtain ⟨hl1, hs1⟩ := small_le hsm.1
    have hm1 := small_name hsm.1
    obtain ⟨hm2, hl2⟩ := light_le hsm.2
    have hs4 : ∀ x, x ∈ L → x.signs.length ≤ 400 := fun x hx => Nat.le_trans (hs1 x hx) (by omega)
    have hs3 : ∀ x, x ∈ L → x.signs.length ≤ 1000 := fun x hx => Nat.le_trans (hs1 x hx) (by omega)
    refine xp_skip rfl ?_; refine xp_seq rfl ?_; refine xp_region rfl (by kernel_rfl) ?_; refine re_rd rfl rfl rfl rfl (rd_load rfl rfl (loadN_of (z := 2) (by kernel_rfl) (by kernel_rfl) (hl.get 1 rfl) rfl)) ?_; refine re_rd rfl rfl rfl rfl (rd_load rfl rfl (loadN_of (z := 2) (by kernel_rfl) (by kernel_rfl) (hl.get 0 rfl) rfl)) ?_
    refine re_callL hl rfl rfl rfl rfl rfl rfl rfl (spec7 n1 n2 a1 a2 cap1 cap2 L C (by omega) (by omega) hs3 (hv.move (hl.since 0 rfl)) (hw.move (hl.since 0 rfl)) (hG.keep hl.keep)) ?_; rintro v S1 hk1 rfl hl
    refine re_rd rfl rfl rfl rfl (rd_move rfl rfl) ?_; iterate 2 refine re_rd rfl rfl rfl rfl (rd_extract rfl rfl rfl) ?_
    iterate 2 refine re_rd rfl rfl rfl rfl (rd_assign rfl rfl) ?_
    refine re_end rfl ?_; refine xp_seq rfl ?_; refine xp_region rfl (by kernel_rfl) ?_; refine re_rd rfl rfl rfl rfl (rd_load rfl rfl (loadN_of (z := 2) (by kernel_rfl) (by kernel_rfl) (hl.get 1 rfl) rfl)) ?_; refine re_rd rfl rfl rfl rfl (rd_load rfl rfl (loadN_of (z := 2) (by kernel_rfl) (by kernel_rfl) (hl.get 0 rfl) rfl)) ?_
    refine re_callL hl rfl rfl rfl rfl rfl rfl rfl (spec8 n1 n2 a1 a2 cap1 cap2 L C (by omega) (by omega) (by omega) (by omega) hs4 (hl.keep.3 hF) (hv.move (hl.since 0 rfl)) (hw.move (hl.since 0 rfl))) ?_; rintro v S1 hk1 rfl hl
    refine re_rd rfl rfl rfl rfl (rd_move rfl rfl) ?_; iterate 2 refine re_rd rfl rfl rfl rfl (rd_extract rfl rfl rfl) ?_
    iterate 2 refine re_rd rfl rfl rfl rfl (rd_assign rfl rfl) ?_
    refine re_end rfl ?_; refine xp_seq rfl ?_; refine xp_region rfl (by kernel_rfl) ?_; refine re_rd rfl rfl rfl rfl (rd_load rfl rfl (loadN_of (z := 2) (by kernel_rfl) (by kernel_rfl) (hl.get 1 rfl) rfl)) ?_; refine re_rd rfl rfl rfl rfl (rd_load rfl rfl (loadN_of (z := 2) (by kernel_rfl) (by kernel_rfl) (hl.get 0 rfl) rfl)) ?_
    refine re_callL hl rfl rfl rfl rfl rfl rfl rfl (spec9 n1 n2 a1 a2 cap1 cap2 L C (by omega) (by omega) hs3 (hv.move (hl.since 0 rfl)) (hw.move (hl.since 0 rfl)) (hG.keep hl.keep)) ?_; rintro v S1 hk1 ⟨w1, rfl, hw1⟩ hl
    obtain ⟨wa1, wc1, rfl⟩ := hw1.is
    have hl := hl.mark
    refine re_rd rfl rfl rfl rfl (rd_move rfl rfl) ?_; iterate 2 refine re_rd rfl rfl rfl rfl (rd_extract rfl rfl rfl) ?_
    iterate 2 refine re_rd rfl rfl rfl rfl (rd_assign rfl rfl) ?_
    refine re_end rfl ?_; refine xp_seq rfl ?_; refine xp_region rfl (by kernel_rfl) ?_; refine re_rd rfl rfl rfl rfl (rd_load rfl rfl (loadN_of (z := 2) (by kernel_rfl) (by kernel_rfl) (hl.get 1 rfl) rfl)) ?_; refine re_rd rfl rfl rfl rfl (rd_load rfl rfl (loadN_of (z := 2) (by kernel_rfl) (by kernel_rfl) (hl.get 0 rfl) rfl)) ?_
    refine re_callL hl rfl rfl rfl rfl rfl rfl rfl (spec10 n1 n2 a1 a2 cap1 cap2 L C (by omega) (by omega) (by omega) (by omega) hs4 (hl.keep.3 hF) (hv.move (hl.since 1 rfl)) (hw.move (hl.since 1 rfl))) ?_; rintro v S1 hk1 ⟨w2, rfl, hw2⟩ hl
    obtain ⟨wa2, wc2, rfl⟩ := hw2.is
    have hl := hl.mark
    refine re_rd rfl rfl rfl rfl (rd_move rfl rfl) ?_; iterate 2 refine re_rd rfl rfl rfl rfl (rd_extract rfl rfl rfl) ?_
    iterate 2 refine re_rd rfl rfl rfl rfl (rd_assign rfl rfl) ?_
    refine re_end rfl ?_; refine xp_seq rfl ?_; refine xp_region rfl (by kernel_rfl) ?_; refine re_rd rfl rfl rfl rfl (rd_load rfl rfl (loadN_of (z := 2) (by kernel_rfl) (by kernel_rfl) (hl.get 0 rfl) rfl)) ?_
    refine re_callL hl rfl rfl rfl rfl rfl rfl rfl (spec11 n2 a2 cap2 C (by omega) (hG.keep hl.keep) (hw.move (hl.since 2 rfl))) ?_; rintro v S1 hk1 ⟨w3, rfl, hw3⟩ hl
    obtain ⟨wa3, wc3, rfl, hp3⟩ := src_is hw3
    have hl := hl.mark
    refine re_rd rfl rfl rfl rfl (rd_move rfl rfl) ?_; iterate 2 refine re_rd rfl rfl rfl rfl (rd_extract rfl rfl rfl) ?_
    refine re_allocL hl rfl rfl rfl rfl rfl (z := [.string noName, .slice none 0 0]) (by kernel_rfl) ?_; intro B13 S13 hl; refine re_storeL hl 0 rfl rfl rfl rfl rfl rfl rfl (by kernel_rfl) rfl ?_; intro S1 hl; refine re_rd rfl rfl rfl rfl (rd_assign rfl rfl) ?_; refine re_end rfl ?_; refine xp_seq rfl ?_; refine xp_region rfl (by kernel_rfl) ?_; refine re_rd rfl rfl rfl rfl (rd_load rfl rfl (loadN_of (z := 2) (by kernel_rfl) (by kernel_rfl) (hl.get 1 rfl) rfl)) ?_
    refine re_callL hl rfl rfl rfl rfl rfl rfl rfl (spec12 n2 a2 cap2 C (by omega) (by omega) (hl.keep.3 hF) (hw.move (hl.since 3 rfl))) ?_; rintro v S1 hk1 ⟨w4, rfl, hw4⟩ hl
    obtain ⟨wa4, wc4, rfl, hp4⟩ := src_is hw4
    have hl := hl.mark
    refine re_rd rfl rfl rfl rfl (rd_move rfl rfl) ?_; iterate 2 refine re_rd rfl rfl rfl rfl (rd_extract rfl rfl rfl) ?_
    refine re_allocL hl rfl rfl rfl rfl rfl (z := [.string noName, .slice none 0 0]) (by kernel_rfl) ?_; intro B15 S15 hl; refine re_storeL hl 0 rfl rfl rfl rfl rfl rfl rfl (by kernel_rfl) rfl ?_; intro S1 hl; refine re_rd rfl rfl rfl rfl (rd_assign rfl rfl) ?_; refine re_end rfl ?_; refine xp_seq rfl (xe_toE hl 4 (.bool true) ?_ rfl ?_)
    ·
      refine xp_region rfl (by kernel_rfl) ?_; iterate 2 refine re_rd rfl rfl rfl rfl (rd_move rfl rfl) ?_
      refine re_rd rfl rfl rfl rfl (rd_bin rfl rfl rfl rfl) ?_; refine re_rd rfl rfl rfl rfl (rd_move rfl rfl) ?_; refine re_bool (d := 63) rfl (fun h63 => ?_) (fun h63 => ?_)
      ·
        iterate 2 refine re_rd rfl rfl rfl rfl (rd_move rfl rfl) ?_
        refine re_rd rfl rfl rfl rfl (rd_bin rfl rfl rfl rfl) ?_; refine re_rd rfl rfl rfl rfl (rd_pick_t rfl rfl rfl) ?_; refine re_rd rfl rfl rfl rfl (rd_move rfl rfl) ?_; refine re_bool (d := 68) rfl (fun h68 => ?_) (fun h68 => ?_)
        ·
          iterate 2 refine re_rd rfl rfl rfl rfl (rd_move rfl rfl) ?_
          refine re_callL hl rfl rfl rfl rfl rfl rfl rfl (spec13 wa1 wa2 wc1 wc2 (choiceF n1.data.toList n2.data.toList L C).1 (choiceF n1.data.toList n2.data.toList L C).1 (by have := choiceF_le n1.data.toList n2.data.toList L C; omega) (hw1.move (hl.since 3 rfl)) (hw2.move (hl.since 2 rfl))) ?_; rintro v S1 hk1 rfl hl
          refine re_rd rfl rfl rfl rfl (rd_pick_t rfl rfl rfl) ?_; refine re_rd rfl rfl rfl rfl (rd_move rfl rfl) ?_; refine re_bool (d := 73) rfl (fun h73 => ?_) (fun h73 => ?_)
          ·
            iterate 2 refine re_rd rfl rfl rfl rfl (rd_move rfl rfl) ?_
            refine re_rd rfl rfl rfl rfl (rd_bin rfl rfl rfl rfl) ?_; refine re_rd rfl rfl rfl rfl (rd_pick_t rfl rfl rfl) ?_; refine re_rd rfl rfl rfl rfl (rd_move rfl rfl) ?_; refine re_bool (d := 78) rfl (fun h78 => ?_) (fun h78 => ?_)
            ·
              refine re_rd rfl rfl rfl rfl (rd_load rfl rfl (loadN_of (z := 2) (by kernel_rfl) (by kernel_rfl) (hl.get 1 rfl) rfl)) ?_; refine re_rd rfl rfl rfl rfl (rd_load rfl rfl (loadN_of (z := 2) (by kernel_rfl) (by kernel_rfl) (hl.get 0 rfl) rfl)) ?_
              refine re_callL hl rfl rfl rfl rfl rfl rfl rfl (spec14 _ _ wa3 wa4 wc3 wc4 (ofR n2 C).2.2 (ofR n2 C).2.2 (by have := (ofR_le n2 C).1; omega) (ofR_le n2 C).2 (hp3.move (hl.since 1 rfl)) (hp4.move (hl.since 0 rfl))) ?_; rintro v S1 hk1 rfl hl
              refine re_rd rfl rfl rfl rfl (rd_pick_t rfl rfl rfl) ?_; refine re_rd rfl rfl rfl rfl (rd_move rfl rfl) ?_; refine re_bool (d := 83) rfl (fun h83 => ?_) (fun h83 => ?_)
              ·
                iterate 2 refine re_rd rfl rfl rfl rfl (rd_move rfl rfl) ?_
                refine re_rd rfl rfl rfl rfl (rd_bin rfl rfl rfl rfl) ?_; refine re_rd rfl rfl rfl rfl (rd_pick_t rfl rfl rfl) ?_; refine re_rd rfl rfl rfl rfl (rd_move rfl rfl) ?_; refine re_bool (d := 88) rfl (fun h88 => ?_) (fun h88 => ?_)
                ·
                  refine re_callL hl rfl rfl rfl rfl rfl rfl rfl (cc_known rfl) ?_; rintro v S1 hk1 rfl hl
                  refine re_rd rfl rfl rfl rfl (rd_pick_t rfl rfl rfl) ?_; refine re_rd rfl rfl rfl rfl (rd_assign rfl rfl) ?_; refine re_end rfl ?_
                  exact ⟨rfl, bl (by first | rfl | (rw [sameF_self] at h88; cases h88) | (simp at h88)), by repeat (first | exact subL_refl _ | refine subL_skip rfl ?_), hl⟩
                ·
                  refine re_pass rfl rfl rfl rfl ?_; refine re_rd rfl rfl rfl rfl (rd_pick_f rfl rfl rfl) ?_; refine re_rd rfl rfl rfl rfl (rd_assign rfl rfl) ?_; refine re_end rfl ?_
                  exact ⟨rfl, bl (by first | rfl | (rw [sameF_self] at h88; cases h88) | (simp at h88)), by repeat (first | exact subL_refl _ | refine subL_skip rfl ?_), hl⟩
              ·
                iterate 3 refine re_pass rfl rfl rfl rfl ?_
                refine re_rd rfl rfl rfl rfl (rd_pick_f rfl rfl rfl) ?_; refine re_rd rfl rfl rfl rfl (rd_move rfl rfl) ?_; refine re_pass rfl rfl rfl rfl ?_; refine re_rd rfl rfl rfl rfl (rd_pick_f rfl rfl rfl) ?_; refine re_rd rfl rfl rfl rfl (rd_assign rfl rfl) ?_; refine re_end rfl ?_
                exact ⟨rfl, bl (by first | rfl | (rw [sameF_self] at h83; cases h83) | (simp at h83)), by repeat (first | exact subL_refl _ | refine subL_skip rfl ?_), hl⟩
            ·
              iterate 3 refine re_pass rfl rfl rfl rfl ?_
              refine re_rd rfl rfl rfl rfl (rd_pick_f rfl rfl rfl) ?_; refine re_rd rfl rfl rfl rfl (rd_move rfl rfl) ?_; iterate 3 refine re_pass rfl rfl rfl rfl ?_
              refine re_rd rfl rfl rfl rfl (rd_pick_f rfl rfl rfl) ?_; refine re_rd rfl rfl rfl rfl (rd_move rfl rfl) ?_; refine re_pass rfl rfl rfl rfl ?_; refine re_rd rfl rfl rfl rfl (rd_pick_f rfl rfl rfl) ?_; refine re_rd rfl rfl rfl rfl (rd_assign rfl rfl) ?_; refine re_end rfl ?_
              exact ⟨rfl, bl (by first | rfl | (rw [sameF_self] at h78; cases h78) | (simp at h78)), by repeat (first | exact subL_refl _ | refine subL_skip rfl ?_), hl⟩
          ·
            iterate 3 refine re_pass rfl rfl rfl rfl ?_
            refine re_rd rfl rfl rfl rfl (rd_pick_f rfl rfl rfl) ?_; refine re_rd rfl rfl rfl rfl (rd_move rfl rfl) ?_; iterate 3 refine re_pass rfl rfl rfl rfl ?_
            refine re_rd rfl rfl rfl rfl (rd_pick_f rfl rfl rfl) ?_; refine re_rd rfl rfl rfl rfl (rd_move rfl rfl) ?_; iterate 3 refine re_pass rfl rfl rfl rfl ?_
            refine re_rd rfl rfl rfl rfl (rd_pick_f rfl rfl rfl) ?_; refine re_rd rfl rfl rfl rfl (rd_move rfl rfl) ?_; refine re_pass rfl rfl rfl rfl ?_; refine re_rd rfl rfl rfl rfl (rd_pick_f rfl rfl rfl) ?_; refine re_rd rfl rfl rfl rfl (rd_assign rfl rfl) ?_; refine re_end rfl ?_
            exact ⟨rfl, bl (by first | rfl | (rw [sameF_self] at h73; cases h73) | (simp at h73)), by repeat (first | exact subL_refl _ | refine subL_skip rfl ?_), hl⟩
        ·
          iterate 3 refine re_pass rfl rfl rfl rfl ?_
          refine re_rd rfl rfl rfl rfl (rd_pick_f rfl rfl rfl) ?_; refine re_rd rfl rfl rfl rfl (rd_move rfl rfl) ?_; iterate 3 refine re_pass rfl rfl rfl rfl ?_
          refine re_rd rfl rfl rfl rfl (rd_pick_f rfl rfl rfl) ?_; refine re_rd rfl rfl rfl rfl (rd_move rfl rfl) ?_; iterate 3 refine re_pass rfl rfl rfl rfl ?_
          refine re_rd rfl rfl rfl rfl (rd_pick_f rfl rfl rfl) ?_; refine re_rd rfl rfl rfl rfl (rd_move rfl rfl) ?_; iterate 3 refine re_pass rfl rfl rfl rfl ?_
          refine re_rd rfl rfl rfl rfl (rd_pick_f rfl rfl rfl) ?_; refine re_rd rfl rfl rfl rfl (rd_move rfl rfl) ?_; refine re_pass rfl rfl rfl rfl ?_; refine re_rd rfl rfl rfl rfl (rd_pick_f rfl rfl rfl) ?_; refine re_rd rfl rfl rfl rfl (rd_assign rfl rfl) ?_; refine re_end rfl ?_
          exact ⟨rfl, bl (by first | rfl | (rw [sameF_self] at h68; cases h68) | (simp at h68)), by repeat (first | exact subL_refl _ | refine subL_skip rfl ?_), hl⟩
      ·
        iterate 3 refine re_pass rfl rfl rfl rfl ?_
        refine re_rd rfl rfl rfl rfl (rd_pick_f rfl rfl rfl) ?_; refine re_rd rfl rfl rfl rfl (rd_move rfl rfl) ?_; iterate 3 refine re_pass rfl rfl rfl rfl ?_
        refine re_rd rfl rfl rfl rfl (rd_pick_f rfl rfl rfl) ?_; refine re_rd rfl rfl rfl rfl (rd_move rfl rfl) ?_; iterate 3 refine re_pass rfl rfl rfl rfl ?_
        refine re_rd rfl rfl rfl rfl (rd_pick_f rfl rfl rfl) ?_; refine re_rd rfl rfl rfl rfl (rd_move rfl rfl) ?_; iterate 3 refine re_pass rfl rfl rfl rfl ?_
        refine re_rd rfl rfl rfl rfl (rd_pick_f rfl rfl rfl) ?_; refine re_rd rfl rfl rfl rfl (rd_move rfl rfl) ?_; iterate 3 refine re_pass rfl rfl rfl rfl ?_
        refine re_rd rfl rfl rfl rfl (rd_pick_f rfl rfl rfl) ?_; refine re_rd rfl rfl rfl rfl (rd_move rfl rfl) ?_; refine re_pass rfl rfl rfl rfl ?_; refine re_rd rfl rfl rfl rfl (rd_pick_f rfl rfl rfl) ?_; refine re_rd rfl rfl rfl rfl (rd_assign rfl rfl) ?_; refine re_end rfl ?_
        exact ⟨rfl, bl (by first | rfl | (rw [sameF_self] at h63; cases h63) | (simp at h63)), by repeat (first | exact subL_refl _ | refine subL_skip rfl ?_), hl⟩
    intro S1 hl
    refine xp_ret rfl ?_
    refine done_ret (ress_tmp rfl rfl) ⟨hl.keep, rfl⟩

end Go.Proofs.YtgnhcamhcnkbfaaGreatDoor

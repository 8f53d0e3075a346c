/-
  same.
-/
import Derived.Test.YtgnhcamhcnkbfaaGreatDoorSm6
namespace Go.Proofs.YtgnhcamhcnkbfaaGreatDoor
open Go.Cm Go
set_option maxRecDepth 100000
variable {S : St}
theorem tk_nth {z o j : Nat} {c l : List Value} {v : Value} (h : takeN z (dropN o c) = some l) (hj : nth l j = some v) : nth c (o + j) = some v := by
  obtain ⟨_, _, e⟩ := takeN_spec _ _ _ h
  subst e
  have := nth_take hj
  rw [dropN_eq] at this
  rw [nth_eq] at this ⊢
  rw [List.getElem?_drop] at this
  exact this
def sameF (n1 n2 : List UInt8) (L1 L2 : List Spt) : Bool := sameBytes n1 n2 && decide (L1 = L2)
theorem sameF_dif {n1 n2 : List UInt8} {L1 L2 : List Spt} (h : difB n1 n2 L1 L2 = true) : sameF n1 n2 L1 L2 = false := by
  unfold difB at h
  unfold sameF
  cases hb : sameBytes n1 n2 with
  | false => rfl
  | true =>
    rw [hb] at h
    rw [Bool.true_and, decide_eq_false_iff_not]
    rintro rfl
    simp at h
theorem sameF_at {n1 n2 : List UInt8} {L1 L2 : List Spt} {i : Nat} {x y : Spt} (hx : nth L1 i = some x) (hy : nth L2 i = some y) (h : x ≠ y) : sameF n1 n2 L1 L2 = false := by
  unfold sameF
  rw [decide_eq_false, Bool.and_false]
  rintro rfl
  rw [hx] at hy
  exact h (Option.some.inj hy)
theorem sameF_all {n1 n2 : List UInt8} {L1 L2 : List Spt} (h : difB n1 n2 L1 L2 = false) (hj : ∀ j, j < L1.length → nth L1 j = nth L2 j) : sameF n1 n2 L1 L2 = true := by
  unfold difB at h
  simp only [Bool.or_eq_false_iff, Bool.not_eq_false'] at h
  unfold sameF
  rw [h.1, Bool.true_and, decide_eq_true_iff]
  exact nth_ext (by have := h.2; simp at this; omega) hj
noncomputable def c14 : Code := Tryz.f14.body.getD .skip
theorem spec14 (n1 n2 : ByteArray) (a1 a2 : Option Addr) (cap1 cap2 : Nat) (L1 L2 : List Spt) (hn1 : L1.length ≤ 1000) (hs1 : ∀ x, x ∈ L1 → x.signs.length ≤ 1000) (hv1 : Spots S (.slice a1 L1.length cap1) L1) (hv2 : Spots S (.slice a2 L2.length cap2) L2) : CC Tryz.prog KK 14 [aggL [.string n1, .slice a1 L1.length cap1], aggL [.string n2, .slice a2 L2.length cap2]] S (fun v S' => Keep S S' ∧ v = .bool (sameF n1.data.toList n2.data.toList L1 L2)) := by
  refine cc_enter (c := c14) (n := 56) Tryz.func14 rfl rfl rfl (by kernel_rfl) rfl rfl ?_
  have hl := Hold.start S
  refine xp_seq rfl ?_; refine xp_region rfl (by kernel_rfl) ?_; refine re_boxL hl rfl rfl rfl rfl rfl rfl ?_; intro B2 S2 hl; refine re_boxL hl rfl rfl rfl rfl rfl rfl ?_; intro B3 S3 hl; refine re_rd rfl rfl rfl rfl (rd_assign rfl rfl) ?_; refine re_end rfl ?_; refine xp_seq rfl ?_; refine xp_seq rfl (xe_toL hl [(19, .bool (difB n1.data.toList n2.data.toList L1 L2)), (3, ptrTo B3 0), (2, ptrTo B2 0)] ?_ ?_)
  ·
    refine xp_region rfl (by kernel_rfl) ?_; refine re_rd rfl rfl rfl rfl (rd_fieldAddr rfl rfl (fieldAddr_at Tryz.underlying24 rfl (by kernel_rfl))) ?_; refine re_rd rfl rfl rfl rfl (rd_load rfl rfl (load1_of (by kernel_rfl) (hl.get 1 rfl) rfl)) ?_; refine re_rd rfl rfl rfl rfl (rd_fieldAddr rfl rfl (fieldAddr_at Tryz.underlying24 rfl (by kernel_rfl))) ?_; refine re_rd rfl rfl rfl rfl (rd_load rfl rfl (load1_of (by kernel_rfl) (hl.get 0 rfl) rfl)) ?_; refine re_rd rfl rfl rfl rfl (rd_bin rfl rfl rfl rfl) ?_; refine re_rd rfl rfl rfl rfl (rd_move rfl rfl) ?_
    refine re_bool (d := 11) rfl (fun h11 => ?_) (fun h11 => ?_)
    ·
      iterate 7 refine re_pass rfl rfl rfl rfl ?_
      refine re_rd rfl rfl rfl rfl (rd_pick_t rfl rfl rfl) ?_; refine re_end rfl ?_
      exact ⟨rfl, ⟨bl (by unfold difB; simp only [h11, BLs]), rfl, rfl, trivial⟩, hl⟩
    ·
      refine re_rd rfl rfl rfl rfl (rd_fieldAddr rfl rfl (fieldAddr_at Tryz.underlying24 rfl (by kernel_rfl))) ?_; refine re_rd rfl rfl rfl rfl (rd_load rfl rfl (load1_of (by kernel_rfl) (hl.get 1 rfl) rfl)) ?_; refine re_rd rfl rfl rfl rfl (rd_len rfl rfl (len_slice Tryz.underlying22)) ?_; refine re_rd rfl rfl rfl rfl (rd_fieldAddr rfl rfl (fieldAddr_at Tryz.underlying24 rfl (by kernel_rfl))) ?_; refine re_rd rfl rfl rfl rfl (rd_load rfl rfl (load1_of (by kernel_rfl) (hl.get 0 rfl) rfl)) ?_; refine re_rd rfl rfl rfl rfl (rd_len rfl rfl (len_slice Tryz.underlying22)) ?_
      refine re_rd rfl rfl rfl rfl (rd_bin rfl rfl rfl rfl) ?_; refine re_rd rfl rfl rfl rfl (rd_pick_f rfl rfl rfl) ?_; refine re_end rfl ?_
      exact ⟨rfl, ⟨bl (by unfold difB; simp only [h11, BLs]), rfl, rfl, trivial⟩, hl⟩
  intro S1 hl
  refine xp_cond rfl rfl (fun h19 => ?_) (fun h19 => ?_)
  ·
    refine xp_seq rfl ?_; refine xp_region rfl (by kernel_rfl) ?_; refine re_rd rfl rfl rfl rfl (rd_assign rfl rfl) ?_; refine re_end rfl ?_; refine xp_ret rfl ?_
    refine thn_ret (done_ret (ress_tmp rfl rfl) ⟨hl.keep, congrArg Value.bool (by rw [sameF_dif h19])⟩)
  ·
    refine xp_skip rfl ?_; iterate 2 refine xp_seq rfl ?_
    refine xp_region rfl (by kernel_rfl) ?_; refine re_rd rfl rfl rfl rfl (rd_assign rfl rfl) ?_; refine re_end rfl ?_; refine xp_block rfl ?_
    -- LOOP
    have hlen : L1.length = L2.length := by
      unfold difB at h19; simp at h19; omega
    refine xe_sub (L' := [(5, .int .i64 0), (3, ptrTo B3 0), (2, ptrTo B2 0)]) ⟨rfl, rfl, rfl, trivial⟩ ?_
    refine xp_loop rfl (fun m Le S' => ∃ i : Nat, i ≤ L1.length ∧ m = L1.length - i ∧ SubE [(5, .int .i64 (i : Int)), (3, ptrTo B3 0), (2, ptrTo B2 0)] Le ∧ (∀ j, j < i → nth L1 j = nth L2 j) ∧ Hold S [S] S' [(B3, .cells [.string n2, .slice a2 L2.length cap2] 24 false true []), (B2, .cells [.string n1, .slice a1 L1.length cap1] 24 false true [])]) ?_ (m := L1.length) ⟨0, by omega, rfl, ⟨rfl, rfl, rfl, trivial⟩, fun j hj => by omega, hl⟩
    clear hl; rintro m Le S' ⟨i, hi, rfl, hsub, heq, hl⟩; refine xe_sub hsub ?_
    iterate 2 refine xp_seq rfl ?_
    refine xp_region rfl (by kernel_rfl) ?_; refine re_rd rfl rfl rfl rfl (rd_move rfl rfl) ?_; refine re_rd rfl rfl rfl rfl (rd_fieldAddr rfl rfl (fieldAddr_at Tryz.underlying24 rfl (by kernel_rfl))) ?_; refine re_rd rfl rfl rfl rfl (rd_load rfl rfl (load1_of (by kernel_rfl) (hl.get 1 rfl) rfl)) ?_; refine re_rd rfl rfl rfl rfl (rd_len rfl rfl (len_slice Tryz.underlying22)) ?_; refine re_rd rfl rfl rfl rfl (rd_bin rfl rfl rfl rfl) ?_; refine re_end rfl ?_; refine xp_cond rfl rfl (fun h24 => ?_) (fun h24 => ?_)
    ·
      have hlt : i < L1.length := by have := of_decide_eq_true h24; omega
      obtain ⟨x, hx⟩ := nth_some hlt
      obtain ⟨y, hy⟩ := nth_some (hlen ▸ hlt)
      obtain ⟨bx, ox, csx, ax, capx, hax, hrowx, htkx, hsgx⟩ := hv1.elem hx
      obtain ⟨by_, oy, csy, ay, capy, hay, hrowy, htky, hsgy⟩ := hv2.elem hy
      have hxs : x.signs.length ≤ 1000 := hs1 x (nth_mem hx)
      refine xp_skip rfl ?_; refine xp_seq rfl ?_; refine xp_block rfl ?_; refine xp_seq rfl ?_; refine xp_draw (idx := [0, 1, 2, 3, 4, 5, 6, 7, 8, 9, 10, 11, 12, 13, 14, 15, 16, 17, 18, 19, 20, 21, 22, 23, 24, 25, 26, 27, 28]) rfl (by kernel_rfl) (by kernel_rfl) ?_; refine rp_rd rfl rfl rfl rfl rfl (rd_fieldAddr rfl rfl (fieldAddr_at Tryz.underlying24 rfl (by kernel_rfl))) ?_; refine rp_lk rfl rfl rfl rfl rfl (rd_load rfl rfl (load1_of (by kernel_rfl) (hl.get 1 rfl) rfl)) ?_; refine rp_rd rfl rfl rfl rfl rfl (rd_move rfl rfl) ?_
      refine rp_rd rfl rfl rfl rfl rfl (rd_indexAddr rfl rfl rfl (indexAddr_sl (z := 2) hax Tryz.underlying22 (by kernel_rfl) ⟨by omega, by omega⟩)) ?_; refine rp_rd rfl rfl rfl rfl rfl (rd_fieldAddr rfl rfl (fieldAddr_at Tryz.underlying43 rfl (by kernel_rfl))) ?_; refine rp_lk rfl rfl rfl rfl rfl (rd_load rfl rfl (load1_row (by kernel_rfl) (row_move (hl.since 0 rfl) hrowx) (tk_nth htkx rfl))) ?_; refine rp_rd rfl rfl rfl rfl rfl (rd_fieldAddr rfl rfl (fieldAddr_at Tryz.underlying24 rfl (by kernel_rfl))) ?_
      refine rp_lk rfl rfl rfl rfl rfl (rd_load rfl rfl (load1_of (by kernel_rfl) (hl.get 0 rfl) rfl)) ?_; refine rp_rd rfl rfl rfl rfl rfl (rd_move rfl rfl) ?_; refine rp_rd rfl rfl rfl rfl rfl (rd_indexAddr rfl rfl rfl (indexAddr_sl (z := 2) hay Tryz.underlying22 (by kernel_rfl) ⟨by omega, by omega⟩)) ?_; refine rp_rd rfl rfl rfl rfl rfl (rd_fieldAddr rfl rfl (fieldAddr_at Tryz.underlying43 rfl (by kernel_rfl))) ?_; refine rp_lk rfl rfl rfl rfl rfl (rd_load rfl rfl (load1_row (by kernel_rfl) (row_move (hl.since 0 rfl) hrowy) (tk_nth htky rfl))) ?_
      refine rp_rd rfl rfl rfl rfl rfl (rd_bin rfl rfl rfl rfl) ?_; refine rp_rd rfl rfl rfl rfl rfl (rd_move rfl rfl) ?_; refine rp_bool (d := 40) rfl (fun h40 => ?_) (fun h40 => ?_)
      ·
        iterate 14 refine rp_pass rfl rfl rfl rfl ?_
        refine rp_rd rfl rfl rfl rfl rfl (rd_pick_t rfl rfl rfl) ?_; refine rp_end rfl ?_; refine xp_cond_t rfl rfl ?_; refine xp_seq rfl ?_; refine xp_region rfl (by kernel_rfl) ?_; refine re_rd rfl rfl rfl rfl (rd_assign rfl rfl) ?_; refine re_end rfl ?_; refine xp_ret rfl ?_
        refine blk_ret (thn_ret (round_ret (blk_ret (thn_ret (done_ret (ress_tmp rfl rfl) ⟨hl.keep, congrArg Value.bool (by rw [sameF_at hx hy (fun e => by rw [e] at h40; simp at h40)])⟩)))))
      ·
        refine rp_rd rfl rfl rfl rfl rfl (rd_fieldAddr rfl rfl (fieldAddr_at Tryz.underlying24 rfl (by kernel_rfl))) ?_; refine rp_lk rfl rfl rfl rfl rfl (rd_load rfl rfl (load1_of (by kernel_rfl) (hl.get 1 rfl) rfl)) ?_; refine rp_rd rfl rfl rfl rfl rfl (rd_move rfl rfl) ?_; refine rp_rd rfl rfl rfl rfl rfl (rd_indexAddr rfl rfl rfl (indexAddr_sl (z := 2) hax Tryz.underlying22 (by kernel_rfl) ⟨by omega, by omega⟩)) ?_; refine rp_rd rfl rfl rfl rfl rfl (rd_fieldAddr rfl rfl (fieldAddr_at Tryz.underlying43 rfl (by kernel_rfl))) ?_
        refine rp_lk rfl rfl rfl rfl rfl (rd_load rfl rfl (load1_row (by kernel_rfl) (row_move (hl.since 0 rfl) hrowx) (tk_nth htkx rfl))) ?_; refine rp_rd rfl rfl rfl rfl rfl (rd_fieldAddr rfl rfl (fieldAddr_at Tryz.underlying24 rfl (by kernel_rfl))) ?_; refine rp_lk rfl rfl rfl rfl rfl (rd_load rfl rfl (load1_of (by kernel_rfl) (hl.get 0 rfl) rfl)) ?_; refine rp_rd rfl rfl rfl rfl rfl (rd_move rfl rfl) ?_; refine rp_rd rfl rfl rfl rfl rfl (rd_indexAddr rfl rfl rfl (indexAddr_sl (z := 2) hay Tryz.underlying22 (by kernel_rfl) ⟨by omega, by omega⟩)) ?_
        refine rp_rd rfl rfl rfl rfl rfl (rd_fieldAddr rfl rfl (fieldAddr_at Tryz.underlying43 rfl (by kernel_rfl))) ?_; refine rp_lk rfl rfl rfl rfl rfl (rd_load rfl rfl (load1_row (by kernel_rfl) (row_move (hl.since 0 rfl) hrowy) (tk_nth htky rfl))) ?_
        refine rp_callL hl rfl rfl rfl rfl rfl rfl rfl (spec28 ax ay capx capy x.signs y.signs hxs (hsgx.move (hl.since 0 rfl)) (hsgy.move (hl.since 0 rfl))) ?_; rintro v S1 hk1 rfl hl; refine ⟨stays_all (by kernel_rfl), ?_⟩
        refine rp_rd rfl rfl rfl rfl rfl (rd_un rfl rfl rfl) ?_; refine rp_rd rfl rfl rfl rfl rfl (rd_pick_f rfl rfl rfl) ?_; refine rp_end rfl ?_; refine xp_cond rfl rfl (fun h55 => ?_) (fun h55 => ?_)
        ·
          refine xp_seq rfl ?_; refine xp_region rfl (by kernel_rfl) ?_; refine re_rd rfl rfl rfl rfl (rd_assign rfl rfl) ?_; refine re_end rfl ?_; refine xp_ret rfl ?_
          refine blk_ret (thn_ret (round_ret (blk_ret (thn_ret (done_ret (ress_tmp rfl rfl) ⟨hl.keep, congrArg Value.bool (by rw [sameF_at hx hy (fun e => by rw [e] at h55; simp at h55)])⟩)))))
        ·
          refine xp_skip rfl ?_; refine xp_region rfl (by kernel_rfl) ?_; refine re_rd rfl rfl rfl rfl (rd_move rfl rfl) ?_; refine re_rd rfl rfl rfl rfl (rd_bin rfl rfl rfl rfl) ?_; refine re_rd rfl rfl rfl rfl (rd_assign rfl rfl) ?_; refine re_end rfl ?_
          refine ⟨L1.length - (i + 1), by omega, i + 1, by omega, rfl, ⟨congrArg some (congrArg (Value.int .i64) (IntWalk.i64_in _ (by omega))), rfl, rfl, trivial⟩, fun j hj => ?_, hl⟩
          rcases Nat.lt_succ_iff_lt_or_eq.1 hj with hj | rfl
          · exact heq j hj
          · rw [hx, hy]
            have e1 : x.blank = y.blank := by simpa using h40
            have e2 : x.signs = y.signs := by simpa using h55
            cases x; cases y
            simp only at e1 e2
            rw [e1, e2]
    ·
      refine xp_exit rfl ?_; refine xp_seq rfl ?_; refine xp_region rfl (by kernel_rfl) ?_; refine re_rd rfl rfl rfl rfl (rd_assign rfl rfl) ?_; refine re_end rfl ?_; refine xp_ret rfl ?_
      refine done_ret (ress_tmp rfl rfl) ⟨hl.keep, congrArg Value.bool (by rw [sameF_all h19 (fun j hj => heq j (by have := of_decide_eq_false h24; omega))])⟩

end Go.Proofs.YtgnhcamhcnkbfaaGreatDoor

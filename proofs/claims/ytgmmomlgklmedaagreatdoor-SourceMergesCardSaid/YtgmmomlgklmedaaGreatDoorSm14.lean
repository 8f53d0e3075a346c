/-
  The reference: Merge.
-/
import Derived.Test.YtgmmomlgklmedaaGreatDoorSm13
namespace Go.Proofs.YtgmmomlgklmedaaGreatDoor
open Go.Cm Go
set_option maxRecDepth 100000
variable {S : St}
def errF (a b : Int) : Int := bif a == 0 then b else a
theorem errF_1 {n1 n2 : ByteArray} {L1 L2 : List Spt} (h : (errF (checkF n1.data.toList L1).1 (checkF n2.data.toList L2).1 != 0) = true) : mergeR n1 n2 L1 L2 = (errF (checkF n1.data.toList L1).1 (checkF n2.data.toList L2).1, noName, []) := by
  unfold errF at *
  cases h1 : ((checkF n1.data.toList L1).1 == 0) with
  | true =>
    rw [h1] at h
    have e1 : ((checkF n1.data.toList L1).1 != 0) = false := by simp only [bne, h1]; rfl
    exact mergeR_2 e1 h
  | false =>
    have e1 : ((checkF n1.data.toList L1).1 != 0) = true := by simp only [bne, h1]; rfl
    exact mergeR_1 e1
theorem errF_2 {n1 n2 : ByteArray} {L1 L2 : List Spt} (h : (errF (checkF n1.data.toList L1).1 (checkF n2.data.toList L2).1 != 0) = false) : ((checkF n1.data.toList L1).1 != 0) = false ∧ ((checkF n2.data.toList L2).1 != 0) = false := by
  unfold errF at h
  cases h1 : ((checkF n1.data.toList L1).1 == 0) with
  | true =>
    rw [h1] at h
    exact ⟨by simp only [bne, h1]; rfl, h⟩
  | false =>
    rw [h1] at h
    have e1 : ((checkF n1.data.toList L1).1 != 0) = true := by simp only [bne, h1]; rfl
    have h' : ((checkF n1.data.toList L1).1 != 0) = false := h
    rw [e1] at h'
    cases h'
noncomputable def c8 : Code := Tryz.f8.body.getD .skip
theorem spec8 (n1 n2 : ByteArray) (a1 a2 : Option Addr) (cap1 cap2 : Nat) (L1 L2 : List Spt) (hm1 : n1.data.toList.length ≤ 1000) (hm2 : n2.data.toList.length ≤ 1000) (hn1 : L1.length ≤ 1000) (hn2 : L2.length ≤ 1000) (hs1 : ∀ x, x ∈ L1 → x.signs.length ≤ 400) (hs2 : ∀ x, x ∈ L2 → x.signs.length ≤ 400) (hF : Fresh S) (hv1 : Spots S (.slice a1 L1.length cap1) L1) (hv2 : Spots S (.slice a2 L2.length cap2) L2) : CC Tryz.prog KK 8 [aggL [.string n1, .slice a1 L1.length cap1], aggL [.string n2, .slice a2 L2.length cap2]] S (fun v S' => Keep S S' ∧ (∃ w, v = tupV [w, .int .i64 (mergeR n1 n2 L1 L2).1] ∧ SrcAt S' w (mergeR n1 n2 L1 L2).2.1 (mergeR n1 n2 L1 L2).2.2)) := by
  refine cc_enter (c := c8) (n := 125) Tryz.func8 rfl rfl rfl (by kernel_rfl) rfl rfl ?_
  have hl := Hold.start S
  refine xp_seq rfl ?_
  refine xp_region rfl (by kernel_rfl) ?_
  refine re_boxL hl rfl rfl rfl rfl rfl rfl ?_; intro B2 S2 hl
  refine re_boxL hl rfl rfl rfl rfl rfl rfl ?_; intro B3 S3 hl
  refine re_allocL hl rfl rfl rfl rfl rfl (z := [.string noName, .slice none 0 0]) (by kernel_rfl) ?_; intro B4 S4 hl
  refine re_rd rfl rfl rfl rfl (rd_assign rfl rfl) ?_
  refine re_end rfl ?_
  refine xp_seq rfl ?_
  refine xp_region rfl (by kernel_rfl) ?_
  refine re_rd rfl rfl rfl rfl (rd_load rfl rfl (loadN_of (z := 2) (by kernel_rfl) (by kernel_rfl) (hl.get 2 rfl) rfl)) ?_
  refine re_callL hl rfl rfl rfl rfl rfl rfl rfl (spec25 n1 a1 cap1 L1 hm1 hn1 (fun x hx => Nat.le_trans (hs1 x hx) (by omega)) (hv1.move (hl.since 0 rfl))) ?_; rintro v S1 hk1 rfl hl
  refine re_rd rfl rfl rfl rfl (rd_move rfl rfl) ?_
  refine re_rd rfl rfl rfl rfl (rd_extract rfl rfl rfl) ?_
  refine re_rd rfl rfl rfl rfl (rd_extract rfl rfl rfl) ?_
  refine re_rd rfl rfl rfl rfl (rd_assign rfl rfl) ?_
  refine re_rd rfl rfl rfl rfl (rd_assign rfl rfl) ?_
  refine re_end rfl ?_
  refine xp_seq rfl (xe_toL hl [(6, .int .i64 (errF (checkF n1.data.toList L1).1 (checkF n2.data.toList L2).1)), (4, ptrTo B4 0), (3, ptrTo B3 0), (2, ptrTo B2 0)] ?_ ?_)
  ·
    refine xp_seq rfl ?_
    refine xp_region rfl (by kernel_rfl) ?_
    refine re_rd rfl rfl rfl rfl (rd_move rfl rfl) ?_
    refine re_rd rfl rfl rfl rfl (rd_bin rfl rfl rfl rfl) ?_
    refine re_end rfl ?_
    refine xp_cond rfl rfl (fun h18 => ?_) (fun h18 => ?_)
    ·
      refine xp_region rfl (by kernel_rfl) ?_
      refine re_rd rfl rfl rfl rfl (rd_load rfl rfl (loadN_of (z := 2) (by kernel_rfl) (by kernel_rfl) (hl.get 1 rfl) rfl)) ?_
      refine re_callL hl rfl rfl rfl rfl rfl rfl rfl (spec25 n2 a2 cap2 L2 hm2 hn2 (fun x hx => Nat.le_trans (hs2 x hx) (by omega)) (hv2.move (hl.since 0 rfl))) ?_; rintro v S1 hk1 rfl hl
      refine re_rd rfl rfl rfl rfl (rd_move rfl rfl) ?_
      refine re_rd rfl rfl rfl rfl (rd_extract rfl rfl rfl) ?_
      refine re_rd rfl rfl rfl rfl (rd_extract rfl rfl rfl) ?_
      refine re_rd rfl rfl rfl rfl (rd_assign rfl rfl) ?_
      exact re_end rfl ⟨rfl, ⟨congrArg (fun z => some (Value.int .i64 z)) (by unfold errF; rw [h18]; rfl), rfl, rfl, rfl, trivial⟩, hl⟩
    ·
      exact xp_skip rfl ⟨rfl, ⟨congrArg (fun z => some (Value.int .i64 z)) (by unfold errF; rw [h18]; rfl), rfl, rfl, rfl, trivial⟩, hl⟩
  intro S1 hl
  refine xp_seq rfl ?_
  refine xp_seq rfl ?_
  refine xp_region rfl (by kernel_rfl) ?_
  refine re_rd rfl rfl rfl rfl (rd_move rfl rfl) ?_
  refine re_rd rfl rfl rfl rfl (rd_bin rfl rfl rfl rfl) ?_
  refine re_end rfl ?_
  refine xp_cond rfl rfl (fun h25 => ?_) (fun h25 => ?_)
  ·
    refine xp_seq rfl ?_
    refine xp_region rfl (by kernel_rfl) ?_
    refine re_rd rfl rfl rfl rfl (rd_build rfl rfl (v := aggL [.string noName, .slice none 0 0]) (by rfl)) ?_
    refine re_rd rfl rfl rfl rfl (rd_move rfl rfl) ?_
    refine re_storeL hl 0 rfl rfl rfl rfl rfl rfl rfl (by kernel_rfl) rfl ?_; intro S1 hl
    refine re_rd rfl rfl rfl rfl (rd_assign rfl rfl) ?_
    refine re_end rfl ?_
    refine xp_ret rfl ?_
    refine thn_ret (done_ret (ress_cell rfl (loadN_of (z := 2) (by kernel_rfl) (by kernel_rfl) (hl.get 0 rfl) rfl) (ress_tmp rfl rfl)) ⟨hl.keep, mres (errF_1 h25) (src_none _)⟩)
  ·
    refine xp_skip rfl ?_
    refine xp_seq rfl ?_
    refine xp_seq rfl (xe_toL hl [(41, .bool (difB n1.data.toList n2.data.toList L1 L2)), (4, ptrTo B4 0), (3, ptrTo B3 0), (2, ptrTo B2 0)] ?_ ?_)
    ·
      refine xp_region rfl (by kernel_rfl) ?_
      refine re_rd rfl rfl rfl rfl (rd_fieldAddr rfl rfl (fieldAddr_at Tryz.underlying24 rfl (by kernel_rfl))) ?_
      refine re_rd rfl rfl rfl rfl (rd_load rfl rfl (load1_of (by kernel_rfl) (hl.get 2 rfl) rfl)) ?_
      refine re_rd rfl rfl rfl rfl (rd_fieldAddr rfl rfl (fieldAddr_at Tryz.underlying24 rfl (by kernel_rfl))) ?_
      refine re_rd rfl rfl rfl rfl (rd_load rfl rfl (load1_of (by kernel_rfl) (hl.get 1 rfl) rfl)) ?_
      refine re_rd rfl rfl rfl rfl (rd_bin rfl rfl rfl rfl) ?_
      refine re_rd rfl rfl rfl rfl (rd_move rfl rfl) ?_
      refine re_bool (d := 33) rfl (fun h33 => ?_) (fun h33 => ?_)
      ·
        refine re_pass rfl rfl rfl rfl ?_
        refine re_pass rfl rfl rfl rfl ?_
        refine re_pass rfl rfl rfl rfl ?_
        refine re_pass rfl rfl rfl rfl ?_
        refine re_pass rfl rfl rfl rfl ?_
        refine re_pass rfl rfl rfl rfl ?_
        refine re_pass rfl rfl rfl rfl ?_
        refine re_rd rfl rfl rfl rfl (rd_pick_t rfl rfl rfl) ?_
        refine re_end rfl ?_
        exact ⟨rfl, ⟨bl (by unfold difB; simp only [h33, BLs]), rfl, rfl, rfl, trivial⟩, hl⟩
      ·
        refine re_rd rfl rfl rfl rfl (rd_fieldAddr rfl rfl (fieldAddr_at Tryz.underlying24 rfl (by kernel_rfl))) ?_
        refine re_rd rfl rfl rfl rfl (rd_load rfl rfl (load1_of (by kernel_rfl) (hl.get 2 rfl) rfl)) ?_
        refine re_rd rfl rfl rfl rfl (rd_len rfl rfl (len_slice Tryz.underlying22)) ?_
        refine re_rd rfl rfl rfl rfl (rd_fieldAddr rfl rfl (fieldAddr_at Tryz.underlying24 rfl (by kernel_rfl))) ?_
        refine re_rd rfl rfl rfl rfl (rd_load rfl rfl (load1_of (by kernel_rfl) (hl.get 1 rfl) rfl)) ?_
        refine re_rd rfl rfl rfl rfl (rd_len rfl rfl (len_slice Tryz.underlying22)) ?_
        refine re_rd rfl rfl rfl rfl (rd_bin rfl rfl rfl rfl) ?_
        refine re_rd rfl rfl rfl rfl (rd_pick_f rfl rfl rfl) ?_
        refine re_end rfl ?_
        exact ⟨rfl, ⟨bl (by unfold difB; simp only [h33, BLs]), rfl, rfl, rfl, trivial⟩, hl⟩
    intro S1 hl
    refine xp_cond rfl rfl (fun h41 => ?_) (fun h41 => ?_)
    ·
      refine xp_seq rfl ?_
      refine xp_region rfl (by kernel_rfl) ?_
      refine re_rd rfl rfl rfl rfl (rd_build rfl rfl (v := aggL [.string noName, .slice none 0 0]) (by rfl)) ?_
      refine re_storeL hl 0 rfl rfl rfl rfl rfl rfl rfl (by kernel_rfl) rfl ?_; intro S1 hl
      refine re_rd rfl rfl rfl rfl (rd_assign rfl rfl) ?_
      refine re_end rfl ?_
      refine xp_ret rfl ?_
      refine thn_ret (done_ret (ress_cell rfl (loadN_of (z := 2) (by kernel_rfl) (by kernel_rfl) (hl.get 0 rfl) rfl) (ress_tmp rfl rfl)) ⟨hl.keep, mres (mergeR_3 (errF_2 h25).1 (errF_2 h25).2 h41) (src_none _)⟩)
    ·
      refine xp_skip rfl ?_
      refine xp_seq rfl ?_
      refine xp_region rfl (by kernel_rfl) ?_
      refine re_rd rfl rfl rfl rfl (rd_fieldAddr rfl rfl (fieldAddr_at Tryz.underlying24 rfl (by kernel_rfl))) ?_
      refine re_rd rfl rfl rfl rfl (rd_load rfl rfl (load1_of (by kernel_rfl) (hl.get 2 rfl) rfl)) ?_
      refine re_rd rfl rfl rfl rfl (rd_build rfl rfl (v := aggL [.string n1, .slice none 0 0]) (by rfl)) ?_
      refine re_allocL hl rfl rfl rfl rfl rfl (z := [.string noName, .slice none 0 0]) (by kernel_rfl) ?_; intro B8 S8 hl
      refine re_storeL hl 0 rfl rfl rfl rfl rfl rfl rfl (by kernel_rfl) rfl ?_; intro S1 hl
      refine re_end rfl ?_
      refine xp_seq rfl ?_
      refine xp_seq rfl ?_
      refine xp_region rfl (by kernel_rfl) ?_
      refine re_rd rfl rfl rfl rfl (rd_assign rfl rfl) ?_
      refine re_end rfl ?_
      refine xp_block rfl ?_
      -- LOOP
      have hlen : L1.length = L2.length := by
        unfold difB at h41; simp at h41; omega
      obtain ⟨he1, he2⟩ := errF_2 h25
      refine xe_sub (L' := [(9, .int .i64 0), (8, ptrTo B8 0), (4, ptrTo B4 0), (3, ptrTo B3 0), (2, ptrTo B2 0)]) ⟨rfl, rfl, rfl, rfl, rfl, trivial⟩ ?_
      have hl := hl.addG (g := ⟨.slice none 0 0, 34, 2, [], 0⟩) (.inl ⟨rfl, rfl, rfl⟩)
      refine xp_loop rfl (fun m Le S' => ∃ (i : Nat) (D : List (List Value)) (out : List Spt) (av : Option Addr), i ≤ L1.length ∧ m = L1.length - i ∧ SubE [(9, .int .i64 (i : Int)), (8, ptrTo B8 0), (4, ptrTo B4 0), (3, ptrTo B3 0), (2, ptrTo B2 0)] Le ∧ mergeG out (L1.drop i) (L2.drop i) = mergeG [] L1 L2 ∧ D.length = i ∧ PtsAt S' D out ∧ HoldG S [S] S' [(B8, .cells [.string n1, .slice av D.length D.length] 24 false true []), (B4, .cells [.string noName, .slice none 0 0] 24 false true []), (B3, .cells [.string n2, .slice a2 L2.length cap2] 24 false true []), (B2, .cells [.string n1, .slice a1 L1.length cap1] 24 false true [])] [⟨.slice av D.length D.length, 34, 2, D.flatten, D.length⟩]) ?_ (m := L1.length) ⟨0, [], [], none, by omega, rfl, ⟨rfl, rfl, rfl, rfl, rfl, trivial⟩, rfl, rfl, ⟨rfl, fun d hd => (List.not_mem_nil hd).elim, fun k x h => by cases k <;> cases h⟩, hl⟩
      clear hl; rintro m Le Sh ⟨i, D, out, av, hi, rfl, hsub, hpr, hDi, hpts, hl⟩; refine xe_sub hsub ?_
      have hl := hl.mark
      refine xp_seq rfl ?_
      refine xp_seq rfl ?_
      refine xp_region rfl (by kernel_rfl) ?_
      refine re_rd rfl rfl rfl rfl (rd_move rfl rfl) ?_
      refine re_rd rfl rfl rfl rfl (rd_fieldAddr rfl rfl (fieldAddr_at Tryz.underlying24 rfl (by kernel_rfl))) ?_
      refine re_rd rfl rfl rfl rfl (rd_load rfl rfl (load1_of (by kernel_rfl) (hl.get 3 rfl) rfl)) ?_
      refine re_rd rfl rfl rfl rfl (rd_len rfl rfl (len_slice Tryz.underlying22)) ?_
      refine re_rd rfl rfl rfl rfl (rd_bin rfl rfl rfl rfl) ?_
      refine re_end rfl ?_
      refine xp_cond rfl rfl (fun h50 => ?_) (fun h50 => ?_)
      ·
        have hlt : i < L1.length := by have := of_decide_eq_true h50; omega
        obtain ⟨x, hx⟩ := nth_some hlt
        obtain ⟨y, hy⟩ := nth_some (hlen ▸ hlt)
        obtain ⟨bx, ox, csx, ax, capx, hax, hrowx, htkx, hsgx⟩ := hv1.elem hx
        obtain ⟨by_, oy, csy, ay, capy, hay, hrowy, htky, hsgy⟩ := hv2.elem hy
        have hxs : x.signs.length ≤ 400 := hs1 x (nth_mem hx)
        have hys : y.signs.length ≤ 400 := hs2 y (nth_mem hy)
        refine xp_skip rfl ?_
        refine xp_seq rfl ?_
        refine xp_block rfl ?_
        refine xp_seq rfl (xe_cut (fun Le S' => ∃ (B10 : Nat) (az : Option Addr), SubE [(10, ptrTo B10 0), (9, .int .i64 (i : Int)), (8, ptrTo B8 0), (4, ptrTo B4 0), (3, ptrTo B3 0), (2, ptrTo B2 0)] Le ∧ HoldG S [Sh, S] S' [(B10, .cells [.slice az x.signs.length x.signs.length, .bool (x.blank || y.blank)] 34 false true []), (B8, .cells [.string n1, .slice av D.length D.length] 24 false true []), (B4, .cells [.string noName, .slice none 0 0] 24 false true []), (B3, .cells [.string n2, .slice a2 L2.length cap2] 24 false true []), (B2, .cells [.string n1, .slice a1 L1.length cap1] 24 false true [])] [⟨.slice az x.signs.length x.signs.length, 50, 17, ((x.signs).map Sg.cells).flatten, x.signs.length⟩, ⟨.slice av D.length D.length, 34, 2, D.flatten, D.length⟩]) ?_ ?_)
        ·
          refine xp_draw (idx := [0, 1, 2, 3, 4, 5, 6, 8, 9, 10, 11, 12, 13, 23, 7, 14, 15, 16, 17, 18, 19, 20, 21, 22, 24]) rfl (by kernel_rfl) (by kernel_rfl) ?_
          refine rp_buildSliceG hF hl (c := []) 17 rfl rfl rfl rfl rfl Tryz.underlying32 rfl (by kernel_rfl) rfl ?_; intro B53 v53 S1 hl
          refine rp_rd rfl rfl rfl rfl rfl (rd_fieldAddr rfl rfl (fieldAddr_at Tryz.underlying24 rfl (by kernel_rfl))) ?_
          refine rp_lk rfl rfl rfl rfl rfl (rd_load rfl rfl (load1_of (by kernel_rfl) (hl.get 3 rfl) rfl)) ?_
          refine rp_rd rfl rfl rfl rfl rfl (rd_move rfl rfl) ?_
          refine rp_rd rfl rfl rfl rfl rfl (rd_indexAddr rfl rfl rfl (indexAddr_sl (z := 2) hax Tryz.underlying22 (by kernel_rfl) ⟨by omega, by omega⟩)) ?_
          refine rp_rd rfl rfl rfl rfl rfl (rd_fieldAddr rfl rfl (fieldAddr_at Tryz.underlying34 rfl (by kernel_rfl))) ?_
          refine rp_lk rfl rfl rfl rfl rfl (rd_load rfl rfl (load1_row (by kernel_rfl) (row_move (hl.since 1 rfl) hrowx) (tk_nth htkx rfl))) ?_
          refine rp_rd rfl rfl rfl rfl rfl (rd_fieldAddr rfl rfl (fieldAddr_at Tryz.underlying24 rfl (by kernel_rfl))) ?_
          refine rp_lk rfl rfl rfl rfl rfl (rd_load rfl rfl (load1_of (by kernel_rfl) (hl.get 3 rfl) rfl)) ?_
          refine rp_rd rfl rfl rfl rfl rfl (rd_move rfl rfl) ?_
          refine rp_rd rfl rfl rfl rfl rfl (rd_indexAddr rfl rfl rfl (indexAddr_sl (z := 2) hax Tryz.underlying22 (by kernel_rfl) ⟨by omega, by omega⟩)) ?_
          refine rp_rd rfl rfl rfl rfl rfl (rd_fieldAddr rfl rfl (fieldAddr_at Tryz.underlying34 rfl (by kernel_rfl))) ?_
          refine rp_lk rfl rfl rfl rfl rfl (rd_load rfl rfl (load1_row (by kernel_rfl) (row_move (hl.since 1 rfl) hrowx) (tk_nth htkx rfl))) ?_
          refine rp_allocL hF hl rfl rfl rfl rfl rfl (z := [.slice none 0 0, .bool false]) (by kernel_rfl) ?_; intro B10 S10 hl
          refine rp_appendG hl 0 rfl rfl (by simp) rfl rfl rfl rfl rfl rfl rfl Tryz.underlying32 Tryz.underlying32 rfl rfl (by kernel_rfl) (hsgx.move (hl.since 1 rfl)).cells (flat17 x.signs) (flatCell x.signs) (by kernel_rfl) (by show 0 + x.signs.length ≤ maxNeed; unfold maxNeed; omega) ?_; intro v60 S1 hl; refine ⟨⟨stays_new rfl (hl.get 0 rfl) (sameL_atoms _ _ (by decide) (atoms_cons (atom_slice _ _ _) (atoms_cons (atom_bool _) atoms_nil))), stays_load rfl rfl (load1_row (by kernel_rfl) (row_move (hl.since 1 rfl) hrowx) (tk_nth htkx rfl)) (same_atom (atom_bool _)) rfl, stays_load rfl rfl (load1_of (by kernel_rfl) (hl.get 4 rfl) rfl) (same_atom (atom_slice _ _ _)) rfl, stays_no (by kernel_rfl), stays_no (by kernel_rfl), stays_no (by kernel_rfl), trivial⟩, ?_⟩
          obtain ⟨az, rfl⟩ : ∃ az, v60 = .slice az x.signs.length x.signs.length := Grow.is (clone_grow (hl.gr _ (List.mem_cons_self ..)))
          refine rp_rd rfl rfl rfl rfl rfl (rd_move rfl rfl) ?_
          refine rp_bool (d := 67) rfl (fun h67 => ?_) (fun h67 => ?_)
          ·
            refine rp_pass rfl rfl rfl rfl ?_
            refine rp_pass rfl rfl rfl rfl ?_
            refine rp_pass rfl rfl rfl rfl ?_
            refine rp_pass rfl rfl rfl rfl ?_
            refine rp_pass rfl rfl rfl rfl ?_
            refine rp_pass rfl rfl rfl rfl ?_
            refine rp_rd rfl rfl rfl rfl rfl (rd_pick_t rfl rfl rfl) ?_
            refine rp_rd rfl rfl rfl rfl rfl (rd_build rfl rfl (v := aggL [.slice az x.signs.length x.signs.length, .bool true]) (by rfl)) ?_
            refine rp_storeL hl 0 rfl rfl rfl rfl rfl rfl rfl (by kernel_rfl) rfl ?_; intro S1 hl; refine ⟨stays_all (by kernel_rfl), ?_⟩
            refine rp_end rfl ⟨rfl, B10, az, ⟨rfl, rfl, rfl, rfl, rfl, rfl, trivial⟩, ?_⟩
            rw [show (x.blank || y.blank) = true by rw [h67]; rfl]
            exact (HoldG.shrink hl (List.Sublist.refl _) (fun g hg => List.mem_cons_of_mem _ hg) (fun T hT => hT)).addG (clone_grow (hl.gr _ (List.mem_cons_self ..)))
          ·
            refine rp_rd rfl rfl rfl rfl rfl (rd_fieldAddr rfl rfl (fieldAddr_at Tryz.underlying24 rfl (by kernel_rfl))) ?_
            refine rp_lk rfl rfl rfl rfl rfl (rd_load rfl rfl (load1_of (by kernel_rfl) (hl.get 3 rfl) rfl)) ?_
            refine rp_rd rfl rfl rfl rfl rfl (rd_move rfl rfl) ?_
            refine rp_rd rfl rfl rfl rfl rfl (rd_indexAddr rfl rfl rfl (indexAddr_sl (z := 2) hay Tryz.underlying22 (by kernel_rfl) ⟨by omega, by omega⟩)) ?_
            refine rp_rd rfl rfl rfl rfl rfl (rd_fieldAddr rfl rfl (fieldAddr_at Tryz.underlying34 rfl (by kernel_rfl))) ?_
            refine rp_lk rfl rfl rfl rfl rfl (rd_load rfl rfl (load1_row (by kernel_rfl) (row_move (hl.since 1 rfl) hrowy) (tk_nth htky rfl))) ?_
            refine rp_rd rfl rfl rfl rfl rfl (rd_pick_f rfl rfl rfl) ?_
            refine rp_rd rfl rfl rfl rfl rfl (rd_build rfl rfl (v := aggL [.slice az x.signs.length x.signs.length, .bool y.blank]) (by rfl)) ?_
            refine rp_storeL hl 0 rfl rfl rfl rfl rfl rfl rfl (by kernel_rfl) rfl ?_; intro S1 hl; refine ⟨stays_all (by kernel_rfl), ?_⟩
            refine rp_end rfl ⟨rfl, B10, az, ⟨rfl, rfl, rfl, rfl, rfl, rfl, trivial⟩, ?_⟩
            rw [show (x.blank || y.blank) = y.blank by rw [h67]; rfl]
            exact (HoldG.shrink hl (List.Sublist.refl _) (fun g hg => List.mem_cons_of_mem _ hg) (fun T hT => hT)).addG (clone_grow (hl.gr _ (List.mem_cons_self ..)))
        clear hl; rintro Le2 S1 ⟨B10, az0, hsub14, hl⟩; refine xe_sub hsub14 ?_
        refine xp_seq rfl ?_
        refine xp_seq rfl ?_
        refine xp_region rfl (by kernel_rfl) ?_
        refine re_rd rfl rfl rfl rfl (rd_assign rfl rfl) ?_
        refine re_end rfl ?_
        refine xp_block rfl ?_
        -- LOOP
        refine xe_sub (L' := [(11, .int .i64 0), (10, ptrTo B10 0), (9, .int .i64 (i : Int)), (8, ptrTo B8 0), (4, ptrTo B4 0), (3, ptrTo B3 0), (2, ptrTo B2 0)]) ⟨rfl, rfl, rfl, rfl, rfl, rfl, rfl, trivial⟩ ?_
        refine xp_loop rfl (fun m Le S' => ∃ (k : Nat) (C : List Sg) (az : Option Addr), k ≤ y.signs.length ∧ m = y.signs.length - k ∧ SubE [(11, .int .i64 (k : Int)), (10, ptrTo B10 0), (9, .int .i64 (i : Int)), (8, ptrTo B8 0), (4, ptrTo B4 0), (3, ptrTo B3 0), (2, ptrTo B2 0)] Le ∧ addS C (y.signs.drop k) = addS x.signs y.signs ∧ C.length ≤ x.signs.length + k ∧ HoldG S [Sh, S] S' [(B10, .cells [.slice az C.length C.length, .bool (x.blank || y.blank)] 34 false true []), (B8, .cells [.string n1, .slice av D.length D.length] 24 false true []), (B4, .cells [.string noName, .slice none 0 0] 24 false true []), (B3, .cells [.string n2, .slice a2 L2.length cap2] 24 false true []), (B2, .cells [.string n1, .slice a1 L1.length cap1] 24 false true [])] [⟨.slice az C.length C.length, 50, 17, ((C).map Sg.cells).flatten, C.length⟩, ⟨.slice av D.length D.length, 34, 2, D.flatten, D.length⟩]) ?_ (m := y.signs.length) ⟨0, x.signs, az0, by omega, rfl, ⟨rfl, rfl, rfl, rfl, rfl, rfl, rfl, trivial⟩, rfl, by omega, hl⟩
        clear hl; rintro m Le S' ⟨k, C, az, hk, rfl, hsub2, hin, hCl, hl⟩; refine xe_sub hsub2 ?_
        refine xp_seq rfl ?_
        refine xp_seq rfl ?_
        refine xp_region rfl (by kernel_rfl) ?_
        refine re_rd rfl rfl rfl rfl (rd_move rfl rfl) ?_
        refine re_rd rfl rfl rfl rfl (rd_fieldAddr rfl rfl (fieldAddr_at Tryz.underlying24 rfl (by kernel_rfl))) ?_
        refine re_rd rfl rfl rfl rfl (rd_load rfl rfl (load1_of (by kernel_rfl) (hl.get 3 rfl) rfl)) ?_
        refine re_rd rfl rfl rfl rfl (rd_move rfl rfl) ?_
        refine re_rd rfl rfl rfl rfl (rd_indexAddr rfl rfl rfl (indexAddr_sl (z := 2) hay Tryz.underlying22 (by kernel_rfl) ⟨by omega, by omega⟩)) ?_
        refine re_rd rfl rfl rfl rfl (rd_fieldAddr rfl rfl (fieldAddr_at Tryz.underlying34 rfl (by kernel_rfl))) ?_
        refine re_rd rfl rfl rfl rfl (rd_load rfl rfl (load1_row (by kernel_rfl) (row_move (hl.since 1 rfl) hrowy) (tk_nth htky rfl))) ?_
        refine re_rd rfl rfl rfl rfl (rd_len rfl rfl (len_slice Tryz.underlying32)) ?_
        refine re_rd rfl rfl rfl rfl (rd_bin rfl rfl rfl rfl) ?_
        refine re_end rfl ?_
        refine xp_cond rfl rfl (fun h84 => ?_) (fun h84 => ?_)
        ·
          have hlt2 : k < y.signs.length := by have := of_decide_eq_true h84; omega
          obtain ⟨s, hs⟩ := nth_some hlt2
          obtain ⟨b4, o4, cs4, ha4, _, hrow4, htk4⟩ := hsgy.elem hs
          refine xp_skip rfl ?_
          refine xp_seq rfl ?_
          refine xp_block rfl ?_
          refine xp_seq rfl ?_
          refine xp_draw (idx := [0, 1, 2, 3, 4, 5, 6, 7, 8, 9, 10, 11, 12]) rfl (by kernel_rfl) (by kernel_rfl) ?_
          refine rp_rd rfl rfl rfl rfl rfl (rd_fieldAddr rfl rfl (fieldAddr_at Tryz.underlying34 rfl (by kernel_rfl))) ?_
          refine rp_lk rfl rfl rfl rfl rfl (rd_load rfl rfl (load1_of (by kernel_rfl) (hl.get 0 rfl) rfl)) ?_
          refine rp_rd rfl rfl rfl rfl rfl (rd_fieldAddr rfl rfl (fieldAddr_at Tryz.underlying24 rfl (by kernel_rfl))) ?_
          refine rp_lk rfl rfl rfl rfl rfl (rd_load rfl rfl (load1_of (by kernel_rfl) (hl.get 3 rfl) rfl)) ?_
          refine rp_rd rfl rfl rfl rfl rfl (rd_move rfl rfl) ?_
          refine rp_rd rfl rfl rfl rfl rfl (rd_indexAddr rfl rfl rfl (indexAddr_sl (z := 2) hay Tryz.underlying22 (by kernel_rfl) ⟨by omega, by omega⟩)) ?_
          refine rp_rd rfl rfl rfl rfl rfl (rd_fieldAddr rfl rfl (fieldAddr_at Tryz.underlying34 rfl (by kernel_rfl))) ?_
          refine rp_lk rfl rfl rfl rfl rfl (rd_load rfl rfl (load1_row (by kernel_rfl) (row_move (hl.since 1 rfl) hrowy) (tk_nth htky rfl))) ?_
          refine rp_rd rfl rfl rfl rfl rfl (rd_move rfl rfl) ?_
          refine rp_rd rfl rfl rfl rfl rfl (rd_indexAddr rfl rfl rfl (indexAddr_sl (z := 17) ha4 Tryz.underlying32 (by kernel_rfl) ⟨by omega, by omega⟩)) ?_
          refine rp_lk rfl rfl rfl rfl rfl (rd_load rfl rfl (loadN_row (z := 17) (by kernel_rfl) (by kernel_rfl) (row_move (hl.since 1 rfl) hrow4) htk4)) ?_
          refine rp_callL hl rfl rfl rfl rfl rfl rfl rfl (spec26 az C.length C s (by omega) (GrowS.signs (hl.gr _ (List.mem_cons_self ..)))) ?_; rintro v S1 hk1 rfl hl; refine ⟨stays_all (by kernel_rfl), ?_⟩
          refine rp_rd rfl rfl rfl rfl rfl (rd_un rfl rfl rfl) ?_
          refine rp_end rfl ?_
          refine xp_cond rfl rfl (fun h99 => ?_) (fun h99 => ?_)
          ·
            refine xp_draw (idx := [0, 1, 2, 3, 4, 5, 6, 7, 8, 9, 10, 11, 12, 13, 14]) rfl (by kernel_rfl) (by kernel_rfl) ?_
            refine rp_rd rfl rfl rfl rfl rfl (rd_fieldAddr rfl rfl (fieldAddr_at Tryz.underlying34 rfl (by kernel_rfl))) ?_
            refine rp_lk rfl rfl rfl rfl rfl (rd_load rfl rfl (load1_of (by kernel_rfl) (hl.get 0 rfl) rfl)) ?_
            refine rp_rd rfl rfl rfl rfl rfl (rd_fieldAddr rfl rfl (fieldAddr_at Tryz.underlying24 rfl (by kernel_rfl))) ?_
            refine rp_lk rfl rfl rfl rfl rfl (rd_load rfl rfl (load1_of (by kernel_rfl) (hl.get 3 rfl) rfl)) ?_
            refine rp_rd rfl rfl rfl rfl rfl (rd_move rfl rfl) ?_
            refine rp_rd rfl rfl rfl rfl rfl (rd_indexAddr rfl rfl rfl (indexAddr_sl (z := 2) hay Tryz.underlying22 (by kernel_rfl) ⟨by omega, by omega⟩)) ?_
            refine rp_rd rfl rfl rfl rfl rfl (rd_fieldAddr rfl rfl (fieldAddr_at Tryz.underlying34 rfl (by kernel_rfl))) ?_
            refine rp_lk rfl rfl rfl rfl rfl (rd_load rfl rfl (load1_row (by kernel_rfl) (row_move (hl.since 1 rfl) hrowy) (tk_nth htky rfl))) ?_
            refine rp_rd rfl rfl rfl rfl rfl (rd_move rfl rfl) ?_
            refine rp_rd rfl rfl rfl rfl rfl (rd_indexAddr rfl rfl rfl (indexAddr_sl (z := 17) ha4 Tryz.underlying32 (by kernel_rfl) ⟨by omega, by omega⟩)) ?_
            refine rp_lk rfl rfl rfl rfl rfl (rd_load rfl rfl (loadN_row (z := 17) (by kernel_rfl) (by kernel_rfl) (row_move (hl.since 1 rfl) hrow4) htk4)) ?_
            refine rp_buildSliceR hF hl rfl rfl rfl rfl rfl Tryz.underlying32 rfl (c := s.cells) (by kernel_rfl) ?_; intro B111 S1 hg111 hr111 hl
            refine rp_appendG hl 0 rfl rfl (by simp) rfl rfl rfl rfl rfl rfl rfl Tryz.underlying32 Tryz.underlying32 rfl rfl (by kernel_rfl) (src_row (new := s.cells) hr111 rfl) rfl rfl (by kernel_rfl) (by show C.length + 1 ≤ maxNeed; unfold maxNeed; omega) ?_; intro v112 S1 hl; refine ⟨stays_all (by kernel_rfl), ?_⟩
            obtain ⟨az2, rfl⟩ : ∃ az2, v112 = .slice az2 (C.length + 1) (C.length + 1) := Grow.is (hl.gr _ (List.mem_cons_self ..))
            refine rp_rd rfl rfl rfl rfl rfl (rd_fieldAddr rfl rfl (fieldAddr_at Tryz.underlying34 rfl (by kernel_rfl))) ?_
            refine rp_storeL hl 0 rfl rfl rfl rfl rfl rfl rfl (by kernel_rfl) rfl ?_; intro S1 hl; refine ⟨stays_all (by kernel_rfl), ?_⟩
            refine rp_end rfl ?_
            refine xp_region rfl (by kernel_rfl) ?_
            refine re_rd rfl rfl rfl rfl (rd_move rfl rfl) ?_
            refine re_rd rfl rfl rfl rfl (rd_bin rfl rfl rfl rfl) ?_
            refine re_rd rfl rfl rfl rfl (rd_assign rfl rfl) ?_
            refine re_end rfl ?_
            refine ⟨y.signs.length - (k + 1), by omega, k + 1, C ++ [s], az2, by omega, rfl, ⟨congrArg some (congrArg (Value.int .i64) (IntWalk.i64_in _ (by omega))), rfl, rfl, rfl, rfl, rfl, rfl, trivial⟩, ?_, by simp; omega, ?_⟩
            · rw [← addS_new (by simpa using h99), ← drop_nth' hs]; exact hin
            · rw [flat_push, List.length_append]; exact hl
          ·
            refine xp_skip rfl ?_
            refine xp_region rfl (by kernel_rfl) ?_
            refine re_rd rfl rfl rfl rfl (rd_move rfl rfl) ?_
            refine re_rd rfl rfl rfl rfl (rd_bin rfl rfl rfl rfl) ?_
            refine re_rd rfl rfl rfl rfl (rd_assign rfl rfl) ?_
            refine re_end rfl ?_
            refine ⟨y.signs.length - (k + 1), by omega, k + 1, C, az, by omega, rfl, ⟨congrArg some (congrArg (Value.int .i64) (IntWalk.i64_in _ (by omega))), rfl, rfl, rfl, rfl, rfl, rfl, trivial⟩, ?_, by omega, ?_⟩
            · rw [← addS_old (by simpa using h99), ← drop_nth' hs]; exact hin
            · exact hl
        ·
          refine xp_exit rfl ?_
          refine xp_seq rfl ?_
          refine xp_seq rfl ?_
          refine xp_region rfl (by kernel_rfl) ?_
          refine re_rd rfl rfl rfl rfl (rd_load rfl rfl (loadN_of (z := 2) (by kernel_rfl) (by kernel_rfl) (hl.get 0 rfl) rfl)) ?_
          have hC : C = addS x.signs y.signs := by
            rw [← hin, List.drop_eq_nil_of_le (by have := of_decide_eq_false h84; omega)]; rfl
          refine re_callL hl rfl rfl rfl rfl rfl rfl rfl (spec27 az C.length C.length (x.blank || y.blank) (by omega)) ?_; rintro v S1 hk1 rfl hl
          refine re_rd rfl rfl rfl rfl (rd_bin rfl rfl rfl rfl) ?_
          refine re_end rfl ?_
          refine xp_cond rfl rfl (fun h116 => ?_) (fun h116 => ?_)
          ·
            refine xp_seq rfl ?_
            refine xp_region rfl (by kernel_rfl) ?_
            refine re_rd rfl rfl rfl rfl (rd_build rfl rfl (v := aggL [.string noName, .slice none 0 0]) (by rfl)) ?_
            refine re_storeL hl 2 rfl rfl rfl rfl rfl rfl rfl (by kernel_rfl) rfl ?_; intro S1 hl
            refine re_rd rfl rfl rfl rfl (rd_assign rfl rfl) ?_
            refine re_end rfl ?_
            refine xp_ret rfl ?_
            refine thn_ret (blk_ret (thn_ret (round_ret (blk_ret (thn_ret (done_ret (ress_cell rfl (loadN_of (z := 2) (by kernel_rfl) (by kernel_rfl) (hl.get 2 rfl) rfl) (ress_tmp rfl rfl)) ⟨hl.keep, mres (mergeR_4 he1 he2 h41 (by rw [← hpr, drop_nth' hx, drop_nth' hy]; exact mergeG_no (by unfold sizeF merge2; rw [← hC]; exact h116))) (src_none _)⟩))))))
          ·
            refine xp_skip rfl ?_
            refine xp_region rfl (by kernel_rfl) ?_
            refine re_rd rfl rfl rfl rfl (rd_fieldAddr rfl rfl (fieldAddr_at Tryz.underlying24 rfl (by kernel_rfl))) ?_
            refine re_rd rfl rfl rfl rfl (rd_load rfl rfl (load1_of (by kernel_rfl) (hl.get 1 rfl) rfl)) ?_
            refine re_rd rfl rfl rfl rfl (rd_load rfl rfl (loadN_of (z := 2) (by kernel_rfl) (by kernel_rfl) (hl.get 0 rfl) rfl)) ?_
            refine re_buildSliceR hl rfl rfl rfl rfl rfl Tryz.underlying22 rfl (c := [.slice az C.length C.length, .bool (x.blank || y.blank)]) (by kernel_rfl) ?_; intro B121 S1 hr121 hl
            refine re_appendG hl 1 rfl rfl (by simp) rfl rfl rfl rfl rfl rfl rfl Tryz.underlying22 Tryz.underlying22 rfl rfl (by kernel_rfl) (src_row (new := [.slice az C.length C.length, .bool (x.blank || y.blank)]) hr121 rfl) rfl rfl (by kernel_rfl) (by show D.length + 1 ≤ maxNeed; unfold maxNeed; omega) ?_; intro v122 S1 hl
            obtain ⟨av2, rfl⟩ : ∃ av2, v122 = .slice av2 (D.length + 1) (D.length + 1) := Grow.is (hl.gr _ (List.mem_cons_of_mem _ (List.mem_cons_self ..)))
            refine re_rd rfl rfl rfl rfl (rd_fieldAddr rfl rfl (fieldAddr_at Tryz.underlying24 rfl (by kernel_rfl))) ?_
            refine re_storeL hl 1 rfl rfl rfl rfl rfl rfl rfl (by kernel_rfl) rfl ?_; intro S1 hl
            refine re_end rfl ?_
            refine xp_region rfl (by kernel_rfl) ?_
            refine re_rd rfl rfl rfl rfl (rd_move rfl rfl) ?_
            refine re_rd rfl rfl rfl rfl (rd_bin rfl rfl rfl rfl) ?_
            refine re_rd rfl rfl rfl rfl (rd_assign rfl rfl) ?_
            refine re_end rfl ?_
            have h97' : decide (sizeF (merge2 x y) > 4) = false := by unfold sizeF merge2; rw [← hC]; exact h116
            have hsc : SpotC _ (merge2 x y) [.slice az C.length C.length, .bool (x.blank || y.blank)] := ⟨.slice az C.length C.length, rfl, by unfold merge2; rw [← hC]; exact GrowS.signs (hl.gr _ (List.mem_cons_self ..))⟩
            refine ⟨L1.length - (i + 1), by omega, i + 1, D ++ [[.slice az C.length C.length, .bool (x.blank || y.blank)]], out ++ [merge2 x y], av2, by omega, rfl, ⟨congrArg some (congrArg (Value.int .i64) (IntWalk.i64_in _ (by omega))), rfl, rfl, rfl, rfl, trivial⟩, ?_, by rw [List.length_append, hDi]; rfl, (hpts.move (hl.since 0 rfl)).push hsc, ?_⟩
            · rw [← mergeG_step h97', ← drop_nth' hx, ← drop_nth' hy]; exact hpr
            · have hl2 := HoldG.shrink hl (l' := _) (Us := [S]) (gs' := _) (List.sublist_append_right [_] _) (fun g hg => List.mem_cons_of_mem _ hg) (fun T hT => List.mem_cons_of_mem _ hT)
              rw [List.flatten_append, List.length_append]
              exact hl2
      ·
        refine xp_exit rfl ?_
        refine xp_seq rfl ?_
        refine xp_region rfl (by kernel_rfl) ?_
        refine re_rd rfl rfl rfl rfl (rd_load rfl rfl (loadN_of (z := 2) (by kernel_rfl) (by kernel_rfl) (hl.get 0 rfl) rfl)) ?_
        refine re_storeL hl 1 rfl rfl rfl rfl rfl rfl rfl (by kernel_rfl) rfl ?_; intro S1 hl
        refine re_rd rfl rfl rfl rfl (rd_assign rfl rfl) ?_
        refine re_end rfl ?_
        refine xp_ret rfl ?_
        refine done_ret (ress_cell rfl (loadN_of (z := 2) (by kernel_rfl) (by kernel_rfl) (hl.get 1 rfl) rfl) (ress_tmp rfl rfl)) ⟨hl.keep, mres (mergeR_5 (out := out) he1 he2 h41 (by rw [← hpr, List.drop_eq_nil_of_le (by have := of_decide_eq_false h50; omega)]; rfl)) ⟨_, rfl, Grow.spots (hl.gr _ (List.mem_cons_self ..)) (hpts.move (hl.since 0 rfl))⟩⟩

end Go.Proofs.YtgmmomlgklmedaaGreatDoor

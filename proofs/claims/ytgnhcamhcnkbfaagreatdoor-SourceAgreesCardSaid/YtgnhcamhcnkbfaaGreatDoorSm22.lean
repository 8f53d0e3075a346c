/-
  The reference: Check of parts.
-/
import Derived.Test.YtgnhcamhcnkbfaaGreatDoorSm21
namespace Go.Proofs.YtgnhcamhcnkbfaaGreatDoor
open Go.Cm Go
set_option maxRecDepth 100000
variable {S : St}
def tiedI (C : List Sg) (i : Int) : Bool := (decide (i ≥ 0) && decide (i < C.length)) && (match nth C i.toNat with
  | some s => s.kind == 4
  | none => false)
theorem nth_none {α : Type} : ∀ {l : List α} {i : Nat}, l.length ≤ i → nth l i = none
  | [], i, _ => by cases i <;> rfl
  | _ :: l, 0, h => by simp at h
  | _ :: l, i + 1, h => nth_none (l := l) (i := i) (by simpa using h)
theorem nextT_nth (C : List Sg) (i : Nat) : nextT (C.drop i) = (match nth C i with
  | some s => s.kind == 4
  | none => false) := by
  by_cases h : i < C.length
  · obtain ⟨s, hs⟩ := nth_some h
    rw [nextT_at hs, hs]
  · rw [nextT_end (by omega), nth_none (by omega)]
theorem tied_next (C : List Sg) (i : Nat) : tiedI C ((i : Int) + 1) = nextT (C.drop (i + 1)) := by
  unfold tiedI
  rw [show ((i : Int) + 1).toNat = i + 1 from rfl, nextT_nth]
  by_cases h : i + 1 < C.length
  · have h2 : decide ((i : Int) + 1 < C.length) = true := by rw [decide_eq_true_iff]; omega
    have h1 : decide ((i : Int) + 1 ≥ 0) = true := by rw [decide_eq_true_iff]; omega
    rw [h1, h2]; rfl
  · have h2 : decide ((i : Int) + 1 < C.length) = false := by rw [decide_eq_false_iff_not]; omega
    rw [h2, nth_none (by omega), Bool.and_false]
theorem tied_prev {C : List Sg} {i : Nat} (h : (!tiedI C ((i : Int) - 1)) = false) : ∃ j, i = j + 1 ∧ ∃ s, nth C j = some s ∧ s.kind = 4 := by
  unfold tiedI at h
  simp only [Bool.not_eq_false', Bool.and_eq_true, decide_eq_true_iff] at h
  obtain ⟨⟨h1, h2⟩, h3⟩ := h
  refine ⟨i - 1, by omega, ?_⟩
  rw [show ((i : Int) - 1).toNat = i - 1 by omega] at h3
  split at h3
  · rename_i s hs
    exact ⟨s, hs, by simpa using h3⟩
  · cases h3
theorem open_no {C : List Sg} {i : Nat} (h : (!tiedI C ((i : Int) - 1)) = true) : openB C i = false := by
  cases i with
  | zero => rfl
  | succ j =>
    unfold tiedI at h
    rw [show (((j + 1 : Nat) : Int) - 1) = (j : Int) by omega, show ((j : Int)).toNat = j from rfl] at h
    show (match nth C j with
      | some s => (s.kind == 4) && !s.last
      | none => false) = false
    cases hs : nth C j with
    | none => rfl
    | some s =>
      rw [hs] at h
      have h2 : decide ((j : Int) < C.length) = true := by rw [decide_eq_true_iff]; have := nth_lt hs; omega
      have h1 : decide ((j : Int) ≥ 0) = true := by rw [decide_eq_true_iff]; omega
      rw [h1, h2] at h
      have h' : (s.kind == 4) = false := by simpa using h
      simp only [h', Bool.false_and]
theorem open_at {C : List Sg} {j : Nat} {s : Sg} (h : nth C j = some s) : openB C (j + 1) = ((s.kind == 4) && !s.last) := by
  show (match nth C j with
    | some s => (s.kind == 4) && !s.last
    | none => false) = _
  rw [h]
theorem open_last {C : List Sg} {j : Nat} {s : Sg} (h : nth C j = some s) (hk : s.kind = 4) : s.last = !openB C (j + 1) := by
  rw [open_at h, hk]; cases s.last <;> rfl
def OpenOk (C : List Sg) (i : Nat) : Prop := openB C i = true → ∃ s, nth C i = some s ∧ s.kind = 4
theorem refE_skip {C : List Sg} {i : Nat} {s : Sg} {R : Int × Int} (hs : nth C i = some s) (h1 : (one s != 0) = false) (h2 : (s.kind != 4) = true) (ho : OpenOk C i) (hin : runE (openB C i) (C.drop i) i = R) : runE (openB C (i + 1)) (C.drop (i + 1)) (i + 1) = R ∧ OpenOk C (i + 1) := by
  have h0 : openB C i = false := by
    cases h : openB C i with
    | false => rfl
    | true =>
      obtain ⟨s2, e1, e2⟩ := ho h
      rw [hs] at e1
      cases e1
      rw [e2] at h2
      cases h2
  have h3 : openB C (i + 1) = false := by
    rw [open_at hs]
    have : (s.kind == 4) = false := by simpa using h2
    rw [this]; rfl
  rw [h0, drop_nth' hs, runE_2 h1 h2] at hin
  rw [h3]
  exact ⟨hin, fun h => by rw [h3] at h; cases h⟩
theorem refE_bad {C : List Sg} {i : Nat} {s : Sg} (hs : nth C i = some s) (h1 : (one s != 0) = false) (h2 : (s.kind != 4) = false) (h3 : ((!openB C i && s.last) || (!s.last && !nextT (C.drop (i + 1)))) = true) : runE (openB C i) (C.drop i) i = (3, (i : Int)) := by
  rw [drop_nth' hs]
  cases hl : s.last with
  | true => exact runE_3 h1 h2 (by rw [hl] at h3 ⊢; simpa using h3)
  | false => exact runE_5 h1 h2 (by rw [hl]; rfl) hl (by rw [hl] at h3; simpa using h3)
theorem refE_go {C : List Sg} {i : Nat} {s : Sg} {R : Int × Int} (hs : nth C i = some s) (h1 : (one s != 0) = false) (h2 : (s.kind != 4) = false) (h3 : ((!openB C i && s.last) || (!s.last && !nextT (C.drop (i + 1)))) = false) (hin : runE (openB C i) (C.drop i) i = R) : runE (openB C (i + 1)) (C.drop (i + 1)) (i + 1) = R ∧ OpenOk C (i + 1) := by
  rw [drop_nth' hs] at hin
  have hk : (s.kind == 4) = true := by simpa using h2
  cases hl : s.last with
  | true =>
    rw [runE_4 h1 h2 (by rw [hl] at h3 ⊢; simpa using h3) hl] at hin
    have h4 : openB C (i + 1) = false := by rw [open_at hs, hl, Bool.not_true, Bool.and_false]
    rw [h4]
    exact ⟨hin, fun h => by rw [h4] at h; cases h⟩
  | false =>
    have h5 : nextT (C.drop (i + 1)) = true := by rw [hl] at h3; simpa using h3
    rw [runE_6 h1 h2 (by rw [hl]; rfl) hl (by rw [h5]; rfl)] at hin
    have h4 : openB C (i + 1) = true := by rw [open_at hs, hl, hk]; rfl
    rw [h4]
    refine ⟨hin, fun _ => ?_⟩
    rw [nextT_nth] at h5
    split at h5
    · rename_i s2 hs2
      exact ⟨s2, hs2, by simpa using h5⟩
    · cases h5
noncomputable def c46 : Code := Tryz.f46.body.getD .skip
theorem spec46 (a : Option Addr) (cap : Nat) (C : List Sg) (i : Int) (hv : Signs S (.slice a C.length cap) C) : CC Tryz.prog KK 46 [.slice a C.length cap, .int .i64 i] S (fun v S' => Keep S S' ∧ v = .bool (tiedI C i)) := by
  refine cc_enter (c := c46) (n := 21) Tryz.func46 rfl rfl rfl (by kernel_rfl) rfl rfl ?_
  have hl := Hold.start S
  refine xp_seq rfl ?_; refine xp_region rfl (by kernel_rfl) ?_; refine re_rd rfl rfl rfl rfl (rd_assign rfl rfl) ?_; refine re_end rfl ?_; refine xe_sub (L' := [(1, .int .i64 i), (0, .slice a C.length cap)]) ⟨rfl, rfl, trivial⟩ ?_; refine xp_seq rfl (xe_toE hl 4 (.bool (tiedI C i)) ?_ rfl ?_)
  ·
    refine xp_region rfl (by kernel_rfl) ?_; refine re_rd rfl rfl rfl rfl (rd_move rfl rfl) ?_; refine re_rd rfl rfl rfl rfl (rd_bin rfl rfl rfl rfl) ?_; refine re_rd rfl rfl rfl rfl (rd_move rfl rfl) ?_; refine re_bool (d := 7) rfl (fun h7 => ?_) (fun h7 => ?_)
    ·
      iterate 2 refine re_rd rfl rfl rfl rfl (rd_move rfl rfl) ?_
      refine re_rd rfl rfl rfl rfl (rd_len rfl rfl (len_slice Tryz.underlying25)) ?_; refine re_rd rfl rfl rfl rfl (rd_bin rfl rfl rfl rfl) ?_; refine re_rd rfl rfl rfl rfl (rd_pick_t rfl rfl rfl) ?_; refine re_rd rfl rfl rfl rfl (rd_move rfl rfl) ?_; refine re_bool (d := 13) rfl (fun h13 => ?_) (fun h13 => ?_)
      ·
        iterate 2 refine re_rd rfl rfl rfl rfl (rd_move rfl rfl) ?_
        have h0 : 0 ≤ i := of_decide_eq_true h7
        have hlt : i.toNat < C.length := by have := of_decide_eq_true h13; omega
        obtain ⟨s, hs⟩ := nth_some hlt
        obtain ⟨b1, o1, cs1, ha, _, hrow, htk⟩ := hv.elem hs
        refine re_rd rfl rfl rfl rfl (rd_indexAddr rfl rfl rfl (indexAddr_sl (z := 17) ha Tryz.underlying25 (by kernel_rfl) ⟨h0, of_decide_eq_true h13⟩)) ?_; refine re_rd rfl rfl rfl rfl (rd_fieldAddr rfl rfl (fieldAddr_at Tryz.underlying54 rfl (by kernel_rfl))) ?_; refine re_rd rfl rfl rfl rfl (rd_load rfl rfl (load1_row (by kernel_rfl) (row_move (hl.since 0 rfl) hrow) (tk_nth htk rfl))) ?_; refine re_rd rfl rfl rfl rfl (rd_bin rfl rfl rfl rfl) ?_; refine re_rd rfl rfl rfl rfl (rd_pick_t rfl rfl rfl) ?_; refine re_rd rfl rfl rfl rfl (rd_assign rfl rfl) ?_; refine re_end rfl ?_
        exact ⟨rfl, bl (by unfold tiedI; rw [h7, h13, hs]; rfl), by repeat (first | exact subL_refl _ | refine subL_skip rfl ?_), hl⟩
      ·
        iterate 6 refine re_pass rfl rfl rfl rfl ?_
        refine re_rd rfl rfl rfl rfl (rd_pick_f rfl rfl rfl) ?_; refine re_rd rfl rfl rfl rfl (rd_assign rfl rfl) ?_; refine re_end rfl ?_
        exact ⟨rfl, bl (by unfold tiedI; rw [h7, h13]; rfl), by repeat (first | exact subL_refl _ | refine subL_skip rfl ?_), hl⟩
    ·
      iterate 4 refine re_pass rfl rfl rfl rfl ?_
      refine re_rd rfl rfl rfl rfl (rd_pick_f rfl rfl rfl) ?_; refine re_rd rfl rfl rfl rfl (rd_move rfl rfl) ?_; iterate 6 refine re_pass rfl rfl rfl rfl ?_
      refine re_rd rfl rfl rfl rfl (rd_pick_f rfl rfl rfl) ?_; refine re_rd rfl rfl rfl rfl (rd_assign rfl rfl) ?_; refine re_end rfl ?_
      exact ⟨rfl, bl (by unfold tiedI; rw [h7]; rfl), by repeat (first | exact subL_refl _ | refine subL_skip rfl ?_), hl⟩
  intro S1 hl
  refine xp_ret rfl ?_
  refine done_ret (ress_tmp rfl rfl) ⟨hl.keep, rfl⟩

noncomputable def c25 : Code := Tryz.f25.body.getD .skip
theorem spec25 (nm : ByteArray) (a : Option Addr) (cap : Nat) (C : List Sg) (hnm : nm.data.toList.length ≤ 1000) (hn : C.length ≤ 1000) (hv : Signs S (.slice a C.length cap) C) : CC Tryz.prog KK 25 [aggL [.string nm, .slice a C.length cap]] S (fun v S' => Keep S S' ∧ v = tupV [.int .i64 (partE nm.data.toList C).1, .int .i64 (partE nm.data.toList C).2]) := by
  refine cc_enter (c := c25) (n := 71) Tryz.func25 rfl rfl rfl (by kernel_rfl) rfl rfl ?_
  have hl := Hold.start S
  refine xp_seq rfl ?_; refine xp_region rfl (by kernel_rfl) ?_; refine re_boxL hl rfl rfl rfl rfl rfl rfl ?_; intro B1 S1 hl; iterate 2 refine re_rd rfl rfl rfl rfl (rd_assign rfl rfl) ?_
  refine re_end rfl ?_; iterate 2 refine xp_seq rfl ?_
  refine xp_region rfl (by kernel_rfl) ?_; refine re_rd rfl rfl rfl rfl (rd_fieldAddr rfl rfl (fieldAddr_at Tryz.underlying27 rfl (by kernel_rfl))) ?_; refine re_rd rfl rfl rfl rfl (rd_load rfl rfl (load1_of (by kernel_rfl) (hl.get 0 rfl) rfl)) ?_
  refine re_callL hl rfl rfl rfl rfl rfl rfl rfl (spec43 nm hnm) ?_; rintro v S1 hk1 rfl hl
  refine re_rd rfl rfl rfl rfl (rd_un rfl rfl rfl) ?_; refine re_end rfl ?_; refine xp_cond rfl rfl (fun h11 => ?_) (fun h11 => ?_)
  ·
    refine xp_seq rfl ?_; refine xp_region rfl (by kernel_rfl) ?_; iterate 2 refine re_rd rfl rfl rfl rfl (rd_assign rfl rfl) ?_
    refine re_end rfl ?_; refine xp_ret rfl ?_
    refine thn_ret (done_ret (ress_tmp rfl (ress_tmp rfl rfl)) ⟨hl.keep, res2 (by unfold partE; rw [h11]; rfl)⟩)
  ·
    refine xp_skip rfl ?_; iterate 2 refine xp_seq rfl ?_
    refine xp_region rfl (by kernel_rfl) ?_; refine re_rd rfl rfl rfl rfl (rd_fieldAddr rfl rfl (fieldAddr_at Tryz.underlying27 rfl (by kernel_rfl))) ?_; refine re_rd rfl rfl rfl rfl (rd_load rfl rfl (load1_of (by kernel_rfl) (hl.get 0 rfl) rfl)) ?_; refine re_rd rfl rfl rfl rfl (rd_len rfl rfl (len_slice Tryz.underlying25)) ?_; refine re_rd rfl rfl rfl rfl (rd_bin rfl rfl rfl rfl) ?_; refine re_end rfl ?_; refine xp_cond rfl rfl (fun h15 => ?_) (fun h15 => ?_)
    ·
      refine xp_seq rfl ?_; refine xp_region rfl (by kernel_rfl) ?_; iterate 2 refine re_rd rfl rfl rfl rfl (rd_assign rfl rfl) ?_
      refine re_end rfl ?_; refine xp_ret rfl ?_
      refine thn_ret (done_ret (ress_tmp rfl (ress_tmp rfl rfl)) ⟨hl.keep, res2 (by unfold partE; rw [h11, h15]; rfl)⟩)
    ·
      refine xp_skip rfl ?_; iterate 2 refine xp_seq rfl ?_
      refine xp_region rfl (by kernel_rfl) ?_; refine re_rd rfl rfl rfl rfl (rd_assign rfl rfl) ?_; refine re_end rfl ?_; refine xp_block rfl ?_
      -- LOOP
      have hck : partE nm.data.toList C = runE false C 0 := by unfold partE; rw [h11, h15]; rfl
      refine xe_sub (L' := [(4, .int .i64 0), (1, ptrTo B1 0)]) ⟨rfl, rfl, trivial⟩ ?_
      refine xp_loop rfl (fun m Le S' => ∃ i : Nat, i ≤ C.length ∧ m = C.length - i ∧ SubE [(4, .int .i64 (i : Int)), (1, ptrTo B1 0)] Le ∧ runE (openB C i) (C.drop i) i = runE false C 0 ∧ OpenOk C i ∧ Hold S [S] S' [(B1, .cells [.string nm, .slice a C.length cap] 27 false true [])]) ?_ (m := C.length) ⟨0, by omega, rfl, ⟨rfl, rfl, trivial⟩, rfl, (fun h => by cases h), hl⟩
      clear hl; rintro m Le S' ⟨i, hi, rfl, hsub, hin, hok, hl⟩; refine xe_sub hsub ?_
      iterate 2 refine xp_seq rfl ?_
      refine xp_region rfl (by kernel_rfl) ?_; refine re_rd rfl rfl rfl rfl (rd_move rfl rfl) ?_; refine re_rd rfl rfl rfl rfl (rd_fieldAddr rfl rfl (fieldAddr_at Tryz.underlying27 rfl (by kernel_rfl))) ?_; refine re_rd rfl rfl rfl rfl (rd_load rfl rfl (load1_of (by kernel_rfl) (hl.get 0 rfl) rfl)) ?_; refine re_rd rfl rfl rfl rfl (rd_len rfl rfl (len_slice Tryz.underlying25)) ?_; refine re_rd rfl rfl rfl rfl (rd_bin rfl rfl rfl rfl) ?_; refine re_end rfl ?_; refine xp_cond rfl rfl (fun h20 => ?_) (fun h20 => ?_)
      ·
        have hlt : i < C.length := by have := of_decide_eq_true h20; omega
        obtain ⟨s, hs⟩ := nth_some hlt
        obtain ⟨b1, o1, cs1, ha, _, hrow, htk⟩ := hv.elem hs
        refine xp_skip rfl ?_; refine xp_seq rfl ?_; refine xp_block rfl ?_; refine xp_seq rfl ?_; refine xp_region rfl (by kernel_rfl) ?_; refine re_rd rfl rfl rfl rfl (rd_fieldAddr rfl rfl (fieldAddr_at Tryz.underlying27 rfl (by kernel_rfl))) ?_; refine re_rd rfl rfl rfl rfl (rd_load rfl rfl (load1_of (by kernel_rfl) (hl.get 0 rfl) rfl)) ?_; refine re_rd rfl rfl rfl rfl (rd_move rfl rfl) ?_; refine re_rd rfl rfl rfl rfl (rd_indexAddr rfl rfl rfl (indexAddr_sl (z := 17) ha Tryz.underlying25 (by kernel_rfl) ⟨by omega, by omega⟩)) ?_
        refine re_rd rfl rfl rfl rfl (rd_load rfl rfl (loadN_row (z := 17) (by kernel_rfl) (by kernel_rfl) (row_move (hl.since 0 rfl) hrow) htk)) ?_; refine re_allocL hl rfl rfl rfl rfl rfl (z := [.int .i64 0, .int .i64 0, .int .i64 0, .int .i64 0, .bool false, .int .i64 0, .bool false, .bool false, .int .i64 0, .int .i64 0, .int .i64 0, .int .i64 0, .bool false, .int .i64 0, .int .i64 0, .int .i64 0, .int .i64 0]) (by kernel_rfl) ?_; intro B5 S5 hl; refine re_storeL hl 0 rfl rfl rfl rfl rfl rfl rfl (by kernel_rfl) rfl ?_; intro S1 hl; refine re_end rfl ?_; iterate 2 refine xp_seq rfl ?_
        refine xp_region rfl (by kernel_rfl) ?_; refine re_rd rfl rfl rfl rfl (rd_load rfl rfl (loadN_of (z := 17) (by kernel_rfl) (by kernel_rfl) (hl.get 0 rfl) rfl)) ?_
        refine re_callL hl rfl rfl rfl rfl rfl rfl rfl (spec45 s) ?_; rintro v S1 hk1 rfl hl
        refine re_rd rfl rfl rfl rfl (rd_assign rfl rfl) ?_; refine re_end rfl ?_; refine xp_seq rfl ?_; refine xp_region rfl (by kernel_rfl) ?_; refine re_rd rfl rfl rfl rfl (rd_move rfl rfl) ?_; refine re_rd rfl rfl rfl rfl (rd_bin rfl rfl rfl rfl) ?_; refine re_end rfl ?_; refine xp_cond rfl rfl (fun h31 => ?_) (fun h31 => ?_)
        ·
          refine xp_seq rfl ?_; refine xp_region rfl (by kernel_rfl) ?_; iterate 2 refine re_rd rfl rfl rfl rfl (rd_move rfl rfl) ?_
          iterate 2 refine re_rd rfl rfl rfl rfl (rd_assign rfl rfl) ?_
          refine re_end rfl ?_; refine xp_ret rfl ?_
          refine thn_ret (blk_ret (thn_ret (round_ret (blk_ret (thn_ret (done_ret (ress_tmp rfl (ress_tmp rfl rfl)) ⟨hl.keep, res2 (by rw [hck, ← hin, drop_nth' hs, runE_1 h31])⟩))))))
        ·
          refine xp_skip rfl ?_; iterate 2 refine xp_seq rfl ?_
          refine xp_region rfl (by kernel_rfl) ?_; refine re_rd rfl rfl rfl rfl (rd_fieldAddr rfl rfl (fieldAddr_at Tryz.underlying54 rfl (by kernel_rfl))) ?_; refine re_rd rfl rfl rfl rfl (rd_load rfl rfl (load1_of (by kernel_rfl) (hl.get 0 rfl) rfl)) ?_; refine re_rd rfl rfl rfl rfl (rd_bin rfl rfl rfl rfl) ?_; refine re_end rfl ?_; refine xp_cond rfl rfl (fun h36 => ?_) (fun h36 => ?_)
          ·
            refine xp_exit rfl ?_; refine xp_region rfl (by kernel_rfl) ?_; refine re_rd rfl rfl rfl rfl (rd_move rfl rfl) ?_; refine re_rd rfl rfl rfl rfl (rd_bin rfl rfl rfl rfl) ?_; refine re_rd rfl rfl rfl rfl (rd_assign rfl rfl) ?_; refine re_end rfl ?_
            exact ⟨C.length - (i + 1), by omega, i + 1, by omega, rfl, ⟨congrArg some (congrArg (Value.int .i64) (IntWalk.i64_in _ (by omega))), rfl, trivial⟩, (refE_skip hs h31 h36 hok hin).1, (refE_skip hs h31 h36 hok hin).2, hl.tail⟩
          ·
            refine xp_skip rfl ?_; refine xp_seq rfl (xe_toE hl 7 (.bool (!openB C i)) ?_ rfl ?_)
            ·
              refine xp_region rfl (by kernel_rfl) ?_; refine re_rd rfl rfl rfl rfl (rd_fieldAddr rfl rfl (fieldAddr_at Tryz.underlying27 rfl (by kernel_rfl))) ?_; refine re_rd rfl rfl rfl rfl (rd_load rfl rfl (load1_of (by kernel_rfl) (hl.get 1 rfl) rfl)) ?_; refine re_rd rfl rfl rfl rfl (rd_move rfl rfl) ?_; refine re_rd rfl rfl rfl rfl (rd_bin rfl rfl rfl (congrArg some (congrArg (Value.int .i64) (IntWalk.i64_in _ (by omega))))) ?_
              refine re_callL hl rfl rfl rfl rfl rfl rfl rfl (spec46 a cap C ((i : Int) - 1) (hv.move (hl.since 0 rfl))) ?_; rintro v S1 hk1 rfl hl
              refine re_rd rfl rfl rfl rfl (rd_un rfl rfl rfl) ?_; refine re_rd rfl rfl rfl rfl (rd_move rfl rfl) ?_; refine re_bool (d := 43) rfl (fun h43 => ?_) (fun h43 => ?_)
              ·
                iterate 7 refine re_pass rfl rfl rfl rfl ?_
                refine re_rd rfl rfl rfl rfl (rd_pick_t rfl rfl rfl) ?_; refine re_rd rfl rfl rfl rfl (rd_assign rfl rfl) ?_; refine re_end rfl ?_
                exact ⟨rfl, bl (by rw [open_no h43]; rfl), by repeat (first | exact subL_refl _ | refine subL_skip rfl ?_), hl⟩
              ·
                obtain ⟨j, rfl, s1, hs1, hk1⟩ := tied_prev h43
                obtain ⟨b3, o3, cs3, ha3, _, hrow3, htk3⟩ := hv.elem hs1
                refine re_rd rfl rfl rfl rfl (rd_fieldAddr rfl rfl (fieldAddr_at Tryz.underlying27 rfl (by kernel_rfl))) ?_; refine re_rd rfl rfl rfl rfl (rd_load rfl rfl (load1_of (by kernel_rfl) (hl.get 1 rfl) rfl)) ?_; refine re_rd rfl rfl rfl rfl (rd_move rfl rfl) ?_; refine re_rd rfl rfl rfl rfl (rd_bin rfl rfl rfl (congrArg some (congrArg (Value.int .i64) ((IntWalk.i64_in _ (by omega)).trans (show (((j + 1 : Nat) : Int) - 1) = (j : Int) by omega))))) ?_; refine re_rd rfl rfl rfl rfl (rd_indexAddr rfl rfl rfl (indexAddr_sl (z := 17) ha3 Tryz.underlying25 (by kernel_rfl) ⟨by omega, by omega⟩)) ?_
                refine re_rd rfl rfl rfl rfl (rd_fieldAddr rfl rfl (fieldAddr_at Tryz.underlying54 rfl (by kernel_rfl))) ?_; refine re_rd rfl rfl rfl rfl (rd_load rfl rfl (load1_row (by kernel_rfl) (row_move (hl.since 0 rfl) hrow3) (tk_nth htk3 rfl))) ?_; refine re_rd rfl rfl rfl rfl (rd_pick_f rfl rfl rfl) ?_; refine re_rd rfl rfl rfl rfl (rd_assign rfl rfl) ?_; refine re_end rfl ?_
                exact ⟨rfl, bl (open_last hs1 hk1), by repeat (first | exact subL_refl _ | refine subL_skip rfl ?_), hl⟩
            intro S1 hl
            refine xp_seq rfl (xe_toE hl 69 (.bool ((!openB C i && s.last) || (!s.last && !nextT (C.drop (i + 1))))) ?_ rfl ?_)
            ·
              refine xp_region rfl (by kernel_rfl) ?_; iterate 2 refine re_rd rfl rfl rfl rfl (rd_move rfl rfl) ?_
              refine re_bool (d := 53) rfl (fun h53 => ?_) (fun h53 => ?_)
              ·
                refine re_rd rfl rfl rfl rfl (rd_fieldAddr rfl rfl (fieldAddr_at Tryz.underlying54 rfl (by kernel_rfl))) ?_; refine re_rd rfl rfl rfl rfl (rd_load rfl rfl (load1_of (by kernel_rfl) (hl.get 0 rfl) rfl)) ?_; refine re_rd rfl rfl rfl rfl (rd_pick_t rfl rfl rfl) ?_; refine re_rd rfl rfl rfl rfl (rd_move rfl rfl) ?_; refine re_bool (d := 57) rfl (fun h57 => ?_) (fun h57 => ?_)
                ·
                  iterate 11 refine re_pass rfl rfl rfl rfl ?_
                  refine re_rd rfl rfl rfl rfl (rd_pick_t rfl rfl rfl) ?_; refine re_end rfl ?_
                  exact ⟨rfl, bl (by first | (simp [h57, h53]; done) | (rw [tied_next]; simp [h57, h53]; done) | (revert h57 h53; cases s.last <;> cases openB C i <;> simp)), by repeat (first | exact subL_refl _ | refine subL_skip rfl ?_), hl⟩
                ·
                  refine re_rd rfl rfl rfl rfl (rd_fieldAddr rfl rfl (fieldAddr_at Tryz.underlying54 rfl (by kernel_rfl))) ?_; refine re_rd rfl rfl rfl rfl (rd_load rfl rfl (load1_of (by kernel_rfl) (hl.get 0 rfl) rfl)) ?_; refine re_rd rfl rfl rfl rfl (rd_un rfl rfl rfl) ?_; refine re_rd rfl rfl rfl rfl (rd_move rfl rfl) ?_; refine re_bool (d := 61) rfl (fun h61 => ?_) (fun h61 => ?_)
                  ·
                    refine re_rd rfl rfl rfl rfl (rd_fieldAddr rfl rfl (fieldAddr_at Tryz.underlying27 rfl (by kernel_rfl))) ?_; refine re_rd rfl rfl rfl rfl (rd_load rfl rfl (load1_of (by kernel_rfl) (hl.get 1 rfl) rfl)) ?_; refine re_rd rfl rfl rfl rfl (rd_move rfl rfl) ?_; refine re_rd rfl rfl rfl rfl (rd_bin rfl rfl rfl (congrArg some (congrArg (Value.int .i64) (IntWalk.i64_in _ (by omega))))) ?_
                    refine re_callL hl rfl rfl rfl rfl rfl rfl rfl (spec46 a cap C ((i : Int) + 1) (hv.move (hl.since 0 rfl))) ?_; rintro v S1 hk1 rfl hl
                    refine re_rd rfl rfl rfl rfl (rd_un rfl rfl rfl) ?_; refine re_rd rfl rfl rfl rfl (rd_pick_t rfl rfl rfl) ?_; refine re_rd rfl rfl rfl rfl (rd_pick_f rfl rfl rfl) ?_; refine re_end rfl ?_
                    exact ⟨rfl, bl (by first | (simp [h61, h57, h53]; done) | (rw [tied_next]; simp [h61, h57, h53]; done) | (revert h61 h57 h53; cases s.last <;> cases openB C i <;> simp)), by repeat (first | exact subL_refl _ | refine subL_skip rfl ?_), hl⟩
                  ·
                    iterate 6 refine re_pass rfl rfl rfl rfl ?_
                    iterate 2 refine re_rd rfl rfl rfl rfl (rd_pick_f rfl rfl rfl) ?_
                    refine re_end rfl ?_
                    exact ⟨rfl, bl (by first | (simp [h61, h57, h53]; done) | (rw [tied_next]; simp [h61, h57, h53]; done) | (revert h61 h57 h53; cases s.last <;> cases openB C i <;> simp)), by repeat (first | exact subL_refl _ | refine subL_skip rfl ?_), hl⟩
              ·
                iterate 2 refine re_pass rfl rfl rfl rfl ?_
                refine re_rd rfl rfl rfl rfl (rd_pick_f rfl rfl rfl) ?_; refine re_rd rfl rfl rfl rfl (rd_move rfl rfl) ?_; refine re_rd rfl rfl rfl rfl (rd_fieldAddr rfl rfl (fieldAddr_at Tryz.underlying54 rfl (by kernel_rfl))) ?_; refine re_rd rfl rfl rfl rfl (rd_load rfl rfl (load1_of (by kernel_rfl) (hl.get 0 rfl) rfl)) ?_; refine re_rd rfl rfl rfl rfl (rd_un rfl rfl rfl) ?_; refine re_rd rfl rfl rfl rfl (rd_move rfl rfl) ?_; refine re_bool (d := 61) rfl (fun h61 => ?_) (fun h61 => ?_)
                ·
                  refine re_rd rfl rfl rfl rfl (rd_fieldAddr rfl rfl (fieldAddr_at Tryz.underlying27 rfl (by kernel_rfl))) ?_; refine re_rd rfl rfl rfl rfl (rd_load rfl rfl (load1_of (by kernel_rfl) (hl.get 1 rfl) rfl)) ?_; refine re_rd rfl rfl rfl rfl (rd_move rfl rfl) ?_; refine re_rd rfl rfl rfl rfl (rd_bin rfl rfl rfl (congrArg some (congrArg (Value.int .i64) (IntWalk.i64_in _ (by omega))))) ?_
                  refine re_callL hl rfl rfl rfl rfl rfl rfl rfl (spec46 a cap C ((i : Int) + 1) (hv.move (hl.since 0 rfl))) ?_; rintro v S1 hk1 rfl hl
                  refine re_rd rfl rfl rfl rfl (rd_un rfl rfl rfl) ?_; refine re_rd rfl rfl rfl rfl (rd_pick_t rfl rfl rfl) ?_; refine re_rd rfl rfl rfl rfl (rd_pick_f rfl rfl rfl) ?_; refine re_end rfl ?_
                  exact ⟨rfl, bl (by first | (simp [h61, h53]; done) | (rw [tied_next]; simp [h61, h53]; done) | (revert h61 h53; cases s.last <;> cases openB C i <;> simp)), by repeat (first | exact subL_refl _ | refine subL_skip rfl ?_), hl⟩
                ·
                  iterate 6 refine re_pass rfl rfl rfl rfl ?_
                  iterate 2 refine re_rd rfl rfl rfl rfl (rd_pick_f rfl rfl rfl) ?_
                  refine re_end rfl ?_
                  exact ⟨rfl, bl (by first | (simp [h61, h53]; done) | (rw [tied_next]; simp [h61, h53]; done) | (revert h61 h53; cases s.last <;> cases openB C i <;> simp)), by repeat (first | exact subL_refl _ | refine subL_skip rfl ?_), hl⟩
            intro S1 hl
            refine xp_cond rfl rfl (fun h69 => ?_) (fun h69 => ?_)
            ·
              refine xp_seq rfl ?_; refine xp_region rfl (by kernel_rfl) ?_; refine re_rd rfl rfl rfl rfl (rd_move rfl rfl) ?_; iterate 2 refine re_rd rfl rfl rfl rfl (rd_assign rfl rfl) ?_
              refine re_end rfl ?_; refine xp_ret rfl ?_
              refine blk_ret (thn_ret (round_ret (blk_ret (thn_ret (done_ret (ress_tmp rfl (ress_tmp rfl rfl)) ⟨hl.keep, res2 (by rw [hck, ← hin, refE_bad hs h31 h36 h69])⟩)))))
            ·
              refine xp_skip rfl ?_; refine xp_region rfl (by kernel_rfl) ?_; refine re_rd rfl rfl rfl rfl (rd_move rfl rfl) ?_; refine re_rd rfl rfl rfl rfl (rd_bin rfl rfl rfl rfl) ?_; refine re_rd rfl rfl rfl rfl (rd_assign rfl rfl) ?_; refine re_end rfl ?_
              exact ⟨C.length - (i + 1), by omega, i + 1, by omega, rfl, ⟨congrArg some (congrArg (Value.int .i64) (IntWalk.i64_in _ (by omega))), rfl, trivial⟩, (refE_go hs h31 h36 h69 hin).1, (refE_go hs h31 h36 h69 hin).2, hl.tail⟩
      ·
        refine xp_exit rfl ?_; refine xp_seq rfl ?_; refine xp_region rfl (by kernel_rfl) ?_; iterate 2 refine re_rd rfl rfl rfl rfl (rd_assign rfl rfl) ?_
        refine re_end rfl ?_; refine xp_ret rfl ?_
        refine done_ret (ress_tmp rfl (ress_tmp rfl rfl)) ⟨hl.keep, res2 (by rw [hck, ← hin, List.drop_eq_nil_of_le (by have := of_decide_eq_false h20; omega)]; rfl)⟩

end Go.Proofs.YtgnhcamhcnkbfaaGreatDoor

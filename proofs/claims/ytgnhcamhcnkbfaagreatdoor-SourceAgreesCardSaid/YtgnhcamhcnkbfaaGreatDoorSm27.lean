/-
  The reference: Agrees, Choice, Of; the kit.
-/
import Derived.Test.YtgnhcamhcnkbfaaGreatDoorSm26
namespace Go.Proofs.YtgnhcamhcnkbfaaGreatDoor
open Go.Cm Go
set_option maxRecDepth 100000
variable {S : St}
def errF (a b : Int) : Int := bif a == 0 then b else a
theorem findF_err {n1 n2 : List UInt8} {L : List Spt} {C : List Sg} (h : (errF (checkF n1 L).1 (partE n2 C).1 != 0) = true) : findF n1 n2 L C = ([], false, errF (checkF n1 L).1 (partE n2 C).1) := by
  unfold errF at *
  cases h1 : ((checkF n1 L).1 == 0) with
  | true =>
    rw [h1] at h
    have e1 : ((checkF n1 L).1 != 0) = false := by simp only [bne, h1]; rfl
    exact findF_2 e1 h
  | false =>
    have e1 : ((checkF n1 L).1 != 0) = true := by simp only [bne, h1]; rfl
    exact findF_1 e1
theorem findF_ok {n1 n2 : List UInt8} {L : List Spt} {C : List Sg} (h : (errF (checkF n1 L).1 (partE n2 C).1 != 0) = false) : ((checkF n1 L).1 != 0) = false ∧ ((partE n2 C).1 != 0) = false := by
  unfold errF at h
  cases h1 : ((checkF n1 L).1 == 0) with
  | true =>
    rw [h1] at h
    exact ⟨by simp only [bne, h1]; rfl, h⟩
  | false =>
    rw [h1] at h
    have e1 : ((checkF n1 L).1 != 0) = true := by simp only [bne, h1]; rfl
    have h' : ((checkF n1 L).1 != 0) = false := h
    rw [e1] at h'
    cases h'
theorem findF_is {n1 n2 : List UInt8} {L : List Spt} {C : List Sg} (h : (errF (checkF n1 L).1 (partE n2 C).1 != 0) = false) : findF n1 n2 L C = (searchF n1 n2 L C, canAt L C 0 0 && sameBytes n1 n2, 0) := by
  obtain ⟨h1, h2⟩ := findF_ok h
  rw [findF_3 h1 h2]
  unfold difN
  cases sameBytes n1 n2 <;> cases canAt L C 0 0 <;> rfl
theorem tup2 {b : Bool} {e : Int} {p : List Int × Bool × Int} {l : List Int} (h : p = (l, b, e)) : tupV [.bool b, .int .i64 e] = tupV [.bool p.2.1, .int .i64 p.2.2] := by rw [h]
theorem first_find {n1 n2 : List UInt8} {L : List Spt} {C : List Sg} (h : ((findF n1 n2 L C).2.2 != 0) = false) (h2 : (!(findF n1 n2 L C).2.1) = false) : firstF L C = (choiceF n1 n2 L C).1 ∧ (choiceF n1 n2 L C).2 = 0 := by
  have h3 : (findF n1 n2 L C).2.2 = 0 := by simpa using h
  have h4 : (findF n1 n2 L C).2.1 = true := by simpa using h2
  unfold choiceF
  rw [h3, h4]
  refine ⟨?_, rfl⟩
  show _ = (findF n1 n2 L C).1
  cases c1 : ((checkF n1 L).1 != 0) with
  | true => rw [findF_1 c1] at h4; cases h4
  | false =>
    cases c2 : ((partE n2 C).1 != 0) with
    | true => rw [findF_2 c1 c2] at h4; cases h4
    | false =>
      rw [findF_3 c1 c2] at h4 ⊢
      have h5 : difN n1 n2 L C = false := by
        have h4' : (!difN n1 n2 L C) = true := h4
        simpa using h4'
      show firstF L C = searchF n1 n2 L C
      unfold searchF firstF
      rw [h5]
      have h6 : canAt L C 0 0 = true := by
        unfold difN at h5
        rw [Bool.or_eq_false_iff] at h5
        simpa using h5.2
      rw [h6]
      exact choose_eq L C (checkF_nodup c1)
theorem choice_err {n1 n2 : List UInt8} {L : List Spt} {C : List Sg} (h : ((findF n1 n2 L C).2.2 != 0) = true) : choiceF n1 n2 L C = ([], (findF n1 n2 L C).2.2) := by
  have h1 : ((findF n1 n2 L C).2.2 == 0) = false := by simpa using h
  unfold choiceF
  rw [h1]
  have h2 : (findF n1 n2 L C).1 = [] := by
    cases c1 : ((checkF n1 L).1 != 0) with
    | true => rw [findF_1 c1]
    | false =>
      cases c2 : ((partE n2 C).1 != 0) with
      | true => rw [findF_2 c1 c2]
      | false => rw [findF_3 c1 c2] at h; cases h
  rw [h2]; rfl
theorem choice_no {n1 n2 : List UInt8} {L : List Spt} {C : List Sg} (h : ((findF n1 n2 L C).2.2 != 0) = false) (h2 : (!(findF n1 n2 L C).2.1) = true) : choiceF n1 n2 L C = ([], 18) := by
  have h1 : ((findF n1 n2 L C).2.2 == 0) = true := by simpa using h
  unfold choiceF
  rw [h1, h2]
  have h3 : (findF n1 n2 L C).1 = [] := by
    cases c1 : ((checkF n1 L).1 != 0) with
    | true => rw [findF_1 c1]
    | false =>
      cases c2 : ((partE n2 C).1 != 0) with
      | true => rw [findF_2 c1 c2]
      | false =>
        rw [findF_3 c1 c2] at h2 ⊢
        have h2' : (!(!difN n1 n2 L C)) = true := h2
        rw [Bool.not_not] at h2'
        show searchF n1 n2 L C = []
        unfold searchF; rw [h2']; rfl
  rw [h3]; rfl
theorem chores {n1 n2 : List UInt8} {L : List Spt} {C : List Sg} {S : St} {w : Value} {e : Int} {l : List Int} (h : choiceF n1 n2 L C = (l, e)) (hw : Ints S w l) :
    ∃ w', tupV [w, .int .i64 e] = tupV [w', .int .i64 (choiceF n1 n2 L C).2] ∧ Ints S w' (choiceF n1 n2 L C).1 := by
  rw [h]; exact ⟨w, rfl, hw⟩
def lightF (nm : List UInt8) (n : Nat) (most : Int) : Bool := decide ((nm.length : Int) ≤ 100) && (decide ((n : Int) ≤ most) || (decide ((n : Int) > 400) && decide ((n : Int) ≤ 420)))
theorem light_le {nm : List UInt8} {n : Nat} (h : lightF nm n 80 = true) : nm.length ≤ 100 ∧ n ≤ 420 := by
  unfold lightF at h
  simp at h
  omega
noncomputable def c8 : Code := Tryz.f8.body.getD .skip
theorem spec8 (n1 n2 : ByteArray) (a1 a2 : Option Addr) (cap1 cap2 : Nat) (L : List Spt) (C : List Sg) (hnm1 : n1.data.toList.length ≤ 1000) (hnm2 : n2.data.toList.length ≤ 1000) (hn : L.length ≤ 1000) (hm : C.length ≤ 1000) (hs : ∀ x, x ∈ L → x.signs.length ≤ 400) (hF : Fresh S) (hv : Spots S (.slice a1 L.length cap1) L) (hw : Signs S (.slice a2 C.length cap2) C) : CC Tryz.prog KK 8 [aggL [.string n1, .slice a1 L.length cap1], aggL [.string n2, .slice a2 C.length cap2]] S (fun v S' => Keep S S' ∧ v = tupV [.bool (findF n1.data.toList n2.data.toList L C).2.1, .int .i64 (findF n1.data.toList n2.data.toList L C).2.2]) := by
  refine cc_enter (c := c8) (n := 40) Tryz.func8 rfl rfl rfl (by kernel_rfl) rfl rfl ?_
  have hl := Hold.start S
  refine xp_seq rfl ?_; refine xp_region rfl (by kernel_rfl) ?_; refine re_boxL hl rfl rfl rfl rfl rfl rfl ?_; intro B2 S2 hl; refine re_boxL hl rfl rfl rfl rfl rfl rfl ?_; intro B3 S3 hl; iterate 2 refine re_rd rfl rfl rfl rfl (rd_assign rfl rfl) ?_
  refine re_end rfl ?_; refine xp_seq rfl ?_; refine xp_region rfl (by kernel_rfl) ?_; refine re_rd rfl rfl rfl rfl (rd_load rfl rfl (loadN_of (z := 2) (by kernel_rfl) (by kernel_rfl) (hl.get 1 rfl) rfl)) ?_
  refine re_callL hl rfl rfl rfl rfl rfl rfl rfl (spec24 n1 a1 cap1 L hnm1 hn (fun x hx => Nat.le_trans (hs x hx) (by omega)) (hv.move (hl.since 0 rfl))) ?_; rintro v S1 hk1 rfl hl
  refine re_rd rfl rfl rfl rfl (rd_move rfl rfl) ?_; iterate 2 refine re_rd rfl rfl rfl rfl (rd_extract rfl rfl rfl) ?_
  iterate 2 refine re_rd rfl rfl rfl rfl (rd_assign rfl rfl) ?_
  refine re_end rfl ?_; refine xp_seq rfl (xe_to [(6, .int .i64 (errF (checkF n1.data.toList L).1 (partE n2.data.toList C).1)), (3, ptrTo B3 0), (2, ptrTo B2 0)] (fun S' => HoldG S [S] S' [(B3, .cells [.string n2, .slice a2 C.length cap2] 27 false true []), (B2, .cells [.string n1, .slice a1 L.length cap1] 24 false true [])] []) ?_ ?_)
  ·
    refine xp_seq rfl ?_; refine xp_region rfl (by kernel_rfl) ?_; refine re_rd rfl rfl rfl rfl (rd_move rfl rfl) ?_; refine re_rd rfl rfl rfl rfl (rd_bin rfl rfl rfl rfl) ?_; refine re_end rfl ?_; refine xp_cond rfl rfl (fun h16 => ?_) (fun h16 => ?_)
    ·
      refine xp_region rfl (by kernel_rfl) ?_; refine re_rd rfl rfl rfl rfl (rd_load rfl rfl (loadN_of (z := 2) (by kernel_rfl) (by kernel_rfl) (hl.get 0 rfl) rfl)) ?_
      refine re_callL hl rfl rfl rfl rfl rfl rfl rfl (spec25 n2 a2 cap2 C hnm2 hm (hw.move (hl.since 0 rfl))) ?_; rintro v S1 hk1 rfl hl
      refine re_rd rfl rfl rfl rfl (rd_move rfl rfl) ?_; iterate 2 refine re_rd rfl rfl rfl rfl (rd_extract rfl rfl rfl) ?_
      refine re_rd rfl rfl rfl rfl (rd_assign rfl rfl) ?_; refine re_end rfl ?_
      exact ⟨rfl, ⟨congrArg some (congrArg (Value.int .i64) (by unfold errF; rw [h16]; rfl)), rfl, rfl, trivial⟩, hl⟩
    ·
      refine xp_skip rfl ?_
      exact ⟨rfl, ⟨congrArg some (congrArg (Value.int .i64) (by unfold errF; rw [h16]; rfl)), rfl, rfl, trivial⟩, hl⟩
  intro S1 hl
  iterate 2 refine xp_seq rfl ?_
  refine xp_region rfl (by kernel_rfl) ?_; refine re_rd rfl rfl rfl rfl (rd_move rfl rfl) ?_; refine re_rd rfl rfl rfl rfl (rd_bin rfl rfl rfl rfl) ?_; refine re_end rfl ?_; refine xp_cond rfl rfl (fun h23 => ?_) (fun h23 => ?_)
  ·
    refine xp_seq rfl ?_; refine xp_region rfl (by kernel_rfl) ?_; refine re_rd rfl rfl rfl rfl (rd_move rfl rfl) ?_; iterate 2 refine re_rd rfl rfl rfl rfl (rd_assign rfl rfl) ?_
    refine re_end rfl ?_; refine xp_ret rfl ?_
    refine thn_ret (done_ret (ress_tmp rfl (ress_tmp rfl rfl)) ⟨hl.keep, tup2 (findF_err h23)⟩)
  ·
    refine xp_skip rfl ?_; refine xp_seq rfl ?_; refine xp_region rfl (by kernel_rfl) ?_; refine re_rd rfl rfl rfl rfl (rd_load rfl rfl (loadN_of (z := 2) (by kernel_rfl) (by kernel_rfl) (hl.get 1 rfl) rfl)) ?_; refine re_rd rfl rfl rfl rfl (rd_fieldAddr rfl rfl (fieldAddr_at Tryz.underlying27 rfl (by kernel_rfl))) ?_; refine re_rd rfl rfl rfl rfl (rd_load rfl rfl (load1_of (by kernel_rfl) (hl.get 0 rfl) rfl)) ?_
    refine re_callL hl rfl rfl rfl rfl rfl rfl rfl (spec26 n1 a1 a2 cap1 cap2 L C hn hm hs (hl.keep.3 hF) (hv.move (hl.since 0 rfl)) (hw.move (hl.since 0 rfl))) ?_; rintro v S1 hk1 ⟨w, rfl, hws⟩ hl
    refine re_rd rfl rfl rfl rfl (rd_move rfl rfl) ?_; iterate 2 refine re_rd rfl rfl rfl rfl (rd_extract rfl rfl rfl) ?_
    iterate 2 refine re_rd rfl rfl rfl rfl (rd_assign rfl rfl) ?_
    refine re_end rfl ?_; refine xp_seq rfl (xe_to [(4, .bool (canAt L C 0 0 && sameBytes n1.data.toList n2.data.toList)), (5, .int .i64 0)] (fun S' => HoldG S [S] S' [(B3, .cells [.string n2, .slice a2 C.length cap2] 27 false true []), (B2, .cells [.string n1, .slice a1 L.length cap1] 24 false true [])] []) ?_ ?_)
    ·
      refine xp_region rfl (by kernel_rfl) ?_; iterate 2 refine re_rd rfl rfl rfl rfl (rd_move rfl rfl) ?_
      refine re_bool (d := 33) rfl (fun h33 => ?_) (fun h33 => ?_)
      ·
        refine re_rd rfl rfl rfl rfl (rd_fieldAddr rfl rfl (fieldAddr_at Tryz.underlying24 rfl (by kernel_rfl))) ?_; refine re_rd rfl rfl rfl rfl (rd_load rfl rfl (load1_of (by kernel_rfl) (hl.get 1 rfl) rfl)) ?_; refine re_rd rfl rfl rfl rfl (rd_fieldAddr rfl rfl (fieldAddr_at Tryz.underlying27 rfl (by kernel_rfl))) ?_; refine re_rd rfl rfl rfl rfl (rd_load rfl rfl (load1_of (by kernel_rfl) (hl.get 0 rfl) rfl)) ?_; refine re_rd rfl rfl rfl rfl (rd_bin rfl rfl rfl rfl) ?_; refine re_rd rfl rfl rfl rfl (rd_pick_t rfl rfl rfl) ?_; iterate 2 refine re_rd rfl rfl rfl rfl (rd_assign rfl rfl) ?_
        refine re_end rfl ?_
        exact ⟨rfl, ⟨bl (by rw [h33]; rfl), rfl, trivial⟩, hl⟩
      ·
        iterate 5 refine re_pass rfl rfl rfl rfl ?_
        refine re_rd rfl rfl rfl rfl (rd_pick_f rfl rfl rfl) ?_; iterate 2 refine re_rd rfl rfl rfl rfl (rd_assign rfl rfl) ?_
        refine re_end rfl ?_
        exact ⟨rfl, ⟨bl (by rw [h33]; rfl), rfl, trivial⟩, hl⟩
    intro S1 hl
    refine xp_ret rfl ?_
    refine done_ret (ress_tmp rfl (ress_tmp rfl rfl)) ⟨hl.keep, tup2 (findF_is h23)⟩

noncomputable def c10 : Code := Tryz.f10.body.getD .skip
theorem spec10 (n1 n2 : ByteArray) (a1 a2 : Option Addr) (cap1 cap2 : Nat) (L : List Spt) (C : List Sg) (hnm1 : n1.data.toList.length ≤ 1000) (hnm2 : n2.data.toList.length ≤ 1000) (hn : L.length ≤ 1000) (hm : C.length ≤ 1000) (hs : ∀ x, x ∈ L → x.signs.length ≤ 400) (hF : Fresh S) (hv : Spots S (.slice a1 L.length cap1) L) (hw : Signs S (.slice a2 C.length cap2) C) : CC Tryz.prog KK 10 [aggL [.string n1, .slice a1 L.length cap1], aggL [.string n2, .slice a2 C.length cap2]] S (fun v S' => Keep S S' ∧ (∃ w, v = tupV [w, .int .i64 (choiceF n1.data.toList n2.data.toList L C).2] ∧ Ints S' w (choiceF n1.data.toList n2.data.toList L C).1)) := by
  refine cc_enter (c := c10) (n := 29) Tryz.func10 rfl rfl rfl (by kernel_rfl) rfl rfl ?_
  have hl := Hold.start S
  refine xp_seq rfl ?_; refine xp_region rfl (by kernel_rfl) ?_; refine re_boxL hl rfl rfl rfl rfl rfl rfl ?_; intro B2 S2 hl; refine re_boxL hl rfl rfl rfl rfl rfl rfl ?_; intro B3 S3 hl; iterate 2 refine re_rd rfl rfl rfl rfl (rd_assign rfl rfl) ?_
  refine re_end rfl ?_; refine xp_seq rfl ?_; refine xp_region rfl (by kernel_rfl) ?_; refine re_rd rfl rfl rfl rfl (rd_load rfl rfl (loadN_of (z := 2) (by kernel_rfl) (by kernel_rfl) (hl.get 1 rfl) rfl)) ?_; refine re_rd rfl rfl rfl rfl (rd_load rfl rfl (loadN_of (z := 2) (by kernel_rfl) (by kernel_rfl) (hl.get 0 rfl) rfl)) ?_
  refine re_callL hl rfl rfl rfl rfl rfl rfl rfl (spec8 n1 n2 a1 a2 cap1 cap2 L C hnm1 hnm2 hn hm hs (hl.keep.3 hF) (hv.move (hl.since 0 rfl)) (hw.move (hl.since 0 rfl))) ?_; rintro v S1 hk1 rfl hl
  refine re_rd rfl rfl rfl rfl (rd_move rfl rfl) ?_; iterate 2 refine re_rd rfl rfl rfl rfl (rd_extract rfl rfl rfl) ?_
  iterate 2 refine re_rd rfl rfl rfl rfl (rd_assign rfl rfl) ?_
  refine re_end rfl ?_; iterate 2 refine xp_seq rfl ?_
  refine xp_region rfl (by kernel_rfl) ?_; refine re_rd rfl rfl rfl rfl (rd_move rfl rfl) ?_; refine re_rd rfl rfl rfl rfl (rd_bin rfl rfl rfl rfl) ?_; refine re_end rfl ?_; refine xp_cond rfl rfl (fun h17 => ?_) (fun h17 => ?_)
  ·
    refine xp_seq rfl ?_; refine xp_region rfl (by kernel_rfl) ?_; refine re_rd rfl rfl rfl rfl (rd_move rfl rfl) ?_; iterate 2 refine re_rd rfl rfl rfl rfl (rd_assign rfl rfl) ?_
    refine re_end rfl ?_; refine xp_ret rfl ?_
    refine thn_ret (done_ret (ress_tmp rfl (ress_tmp rfl rfl)) ⟨hl.keep, chores (choice_err h17) (ints_nil _)⟩)
  ·
    refine xp_skip rfl ?_; iterate 2 refine xp_seq rfl ?_
    refine xp_region rfl (by kernel_rfl) ?_; refine re_rd rfl rfl rfl rfl (rd_move rfl rfl) ?_; refine re_rd rfl rfl rfl rfl (rd_un rfl rfl rfl) ?_; refine re_end rfl ?_; refine xp_cond rfl rfl (fun h20 => ?_) (fun h20 => ?_)
    ·
      refine xp_seq rfl ?_; refine xp_region rfl (by kernel_rfl) ?_; iterate 2 refine re_rd rfl rfl rfl rfl (rd_assign rfl rfl) ?_
      refine re_end rfl ?_; refine xp_ret rfl ?_
      refine thn_ret (done_ret (ress_tmp rfl (ress_tmp rfl rfl)) ⟨hl.keep, chores (choice_no h17 h20) (ints_nil _)⟩)
    ·
      refine xp_skip rfl ?_; refine xp_seq rfl ?_; refine xp_region rfl (by kernel_rfl) ?_; refine re_rd rfl rfl rfl rfl (rd_load rfl rfl (loadN_of (z := 2) (by kernel_rfl) (by kernel_rfl) (hl.get 1 rfl) rfl)) ?_; refine re_rd rfl rfl rfl rfl (rd_fieldAddr rfl rfl (fieldAddr_at Tryz.underlying27 rfl (by kernel_rfl))) ?_; refine re_rd rfl rfl rfl rfl (rd_load rfl rfl (load1_of (by kernel_rfl) (hl.get 0 rfl) rfl)) ?_
      refine re_callL hl rfl rfl rfl rfl rfl rfl rfl (spec26 n1 a1 a2 cap1 cap2 L C hn hm hs (hl.keep.3 hF) (hv.move (hl.since 0 rfl)) (hw.move (hl.since 0 rfl))) ?_; rintro v S1 hk1 ⟨w, rfl, hws⟩ hl
      refine re_rd rfl rfl rfl rfl (rd_move rfl rfl) ?_; iterate 2 refine re_rd rfl rfl rfl rfl (rd_extract rfl rfl rfl) ?_
      iterate 2 refine re_rd rfl rfl rfl rfl (rd_assign rfl rfl) ?_
      refine re_end rfl ?_; refine xp_seq rfl ?_; refine xp_region rfl (by kernel_rfl) ?_; refine re_rd rfl rfl rfl rfl (rd_move rfl rfl) ?_; iterate 2 refine re_rd rfl rfl rfl rfl (rd_assign rfl rfl) ?_
      refine re_end rfl ?_; refine xp_ret rfl ?_
      refine done_ret (ress_tmp rfl (ress_tmp rfl rfl)) ⟨hl.keep, (by obtain ⟨e1, e2⟩ := first_find h17 h20; rw [e2, ← e1]; exact ⟨w, rfl, hws⟩)⟩

noncomputable def c12 : Code := Tryz.f12.body.getD .skip
theorem spec12 (nm : ByteArray) (a : Option Addr) (cap : Nat) (C : List Sg) (hnm : nm.data.toList.length ≤ 1000) (hn : C.length ≤ 1000) (hF : Fresh S) (hv : Signs S (.slice a C.length cap) C) : CC Tryz.prog KK 12 [aggL [.string nm, .slice a C.length cap]] S (fun v S' => Keep S S' ∧ (∃ w, v = tupV [w, .int .i64 (ofR nm C).1] ∧ SrcAt S' w (ofR nm C).2.1 (ofR nm C).2.2)) := by
  refine cc_enter (c := c12) (n := 40) Tryz.func12 rfl rfl rfl (by kernel_rfl) rfl rfl ?_
  have hl := Hold.start S
  refine xp_seq rfl ?_; refine xp_region rfl (by kernel_rfl) ?_; refine re_boxL hl rfl rfl rfl rfl rfl rfl ?_; intro B1 S1 hl; refine re_allocL hl rfl rfl rfl rfl rfl (z := [.string noName, .slice none 0 0]) (by kernel_rfl) ?_; intro B2 S2 hl; refine re_rd rfl rfl rfl rfl (rd_assign rfl rfl) ?_; refine re_end rfl ?_; iterate 2 refine xp_seq rfl ?_
  refine xp_region rfl (by kernel_rfl) ?_; refine re_rd rfl rfl rfl rfl (rd_load rfl rfl (loadN_of (z := 2) (by kernel_rfl) (by kernel_rfl) (hl.get 1 rfl) rfl)) ?_
  refine re_callL hl rfl rfl rfl rfl rfl rfl rfl (spec25 nm a cap C hnm hn (hv.move (hl.since 0 rfl))) ?_; rintro v S1 hk1 rfl hl
  refine re_rd rfl rfl rfl rfl (rd_move rfl rfl) ?_; iterate 2 refine re_rd rfl rfl rfl rfl (rd_extract rfl rfl rfl) ?_
  iterate 2 refine re_rd rfl rfl rfl rfl (rd_assign rfl rfl) ?_
  refine re_end rfl ?_; refine xp_seq rfl ?_; refine xp_region rfl (by kernel_rfl) ?_; refine re_rd rfl rfl rfl rfl (rd_move rfl rfl) ?_; refine re_rd rfl rfl rfl rfl (rd_bin rfl rfl rfl  rfl) ?_; refine re_end rfl ?_; refine xp_cond rfl rfl (fun h14 => ?_) (fun h14 => ?_)
  ·
    refine xp_seq rfl ?_; refine xp_region rfl (by kernel_rfl) ?_; refine re_rd rfl rfl rfl rfl (rd_build rfl rfl (v := aggL [.string noName, .slice none 0 0]) (by rfl)) ?_; refine re_rd rfl rfl rfl rfl (rd_move rfl rfl) ?_; refine re_storeL hl 0 rfl rfl rfl rfl rfl rfl rfl (by kernel_rfl) rfl ?_; intro S1 hl; refine re_rd rfl rfl rfl rfl (rd_assign rfl rfl) ?_; refine re_end rfl ?_; refine xp_ret rfl ?_
    refine thn_ret (done_ret (ress_cell rfl (loadN_of (z := 2) (by kernel_rfl) (by kernel_rfl) (hl.get 0 rfl) rfl) (ress_tmp rfl rfl)) ⟨hl.keep, ofres (ofR_1 h14) (src_none _)⟩)
  ·
    refine xp_skip rfl ?_; refine xp_seq rfl ?_; refine xp_region rfl (by kernel_rfl) ?_; refine re_rd rfl rfl rfl rfl (rd_fieldAddr rfl rfl (fieldAddr_at Tryz.underlying27 rfl (by kernel_rfl))) ?_; refine re_rd rfl rfl rfl rfl (rd_load rfl rfl (load1_of (by kernel_rfl) (hl.get 1 rfl) rfl)) ?_; refine re_rd rfl rfl rfl rfl (rd_build rfl rfl (v := aggL [.string nm, .slice none 0 0]) (by rfl)) ?_; refine re_allocL hl rfl rfl rfl rfl rfl (z := [.string noName, .slice none 0 0]) (by kernel_rfl) ?_; intro B6 S6 hl; refine re_storeL hl 0 rfl rfl rfl rfl rfl rfl rfl (by kernel_rfl) rfl ?_; intro S1 hl
    refine re_end rfl ?_; iterate 2 refine xp_seq rfl ?_
    refine xp_region rfl (by kernel_rfl) ?_; refine re_rd rfl rfl rfl rfl (rd_assign rfl rfl) ?_; refine re_end rfl ?_; refine xp_block rfl ?_
    -- LOOP
    have hl := hl.addG (g := ⟨.slice none 0 0, 43, 2, [], 0⟩) (.inl ⟨rfl, rfl, rfl⟩)
    refine xe_sub (L' := [(7, .int .i64 0), (6, ptrTo B6 0), (2, ptrTo B2 0), (1, ptrTo B1 0)]) ⟨rfl, rfl, rfl, rfl, trivial⟩ ?_
    refine xp_loop rfl (fun m Le S' => ∃ (i : Nat) (D : List (List Value)) (av : Option Addr), i ≤ C.length ∧ m = C.length - i ∧ SubE [(7, .int .i64 (i : Int)), (6, ptrTo B6 0), (2, ptrTo B2 0), (1, ptrTo B1 0)] Le ∧ D.length = i ∧ PtsAt S' D ((C.take i).map fun s => ⟨[s], false⟩) ∧ HoldG S [S] S' [(B6, .cells [.string nm, .slice av D.length D.length] 24 false true []), (B2, .cells [.string noName, .slice none 0 0] 24 false true []), (B1, .cells [.string nm, .slice a C.length cap] 27 false true [])] [⟨.slice av D.length D.length, 43, 2, D.flatten, D.length⟩]) ?_ (m := C.length) ⟨0, [], none, by omega, rfl, ⟨rfl, rfl, rfl, rfl, trivial⟩, rfl, ⟨rfl, fun d hd => (List.not_mem_nil hd).elim, fun k x h => by cases k <;> cases h⟩, hl⟩
    clear hl; rintro m Le Sh ⟨i, D, av, hi, rfl, hsub, hDi, hpts, hl⟩; refine xe_sub hsub ?_
    have hl := hl.mark
    iterate 2 refine xp_seq rfl ?_
    refine xp_region rfl (by kernel_rfl) ?_; refine re_rd rfl rfl rfl rfl (rd_move rfl rfl) ?_; refine re_rd rfl rfl rfl rfl (rd_fieldAddr rfl rfl (fieldAddr_at Tryz.underlying27 rfl (by kernel_rfl))) ?_; refine re_rd rfl rfl rfl rfl (rd_load rfl rfl (load1_of (by kernel_rfl) (hl.get 2 rfl) rfl)) ?_; refine re_rd rfl rfl rfl rfl (rd_len rfl rfl (len_slice Tryz.underlying25)) ?_; refine re_rd rfl rfl rfl rfl (rd_bin rfl rfl rfl  rfl) ?_; refine re_end rfl ?_; refine xp_cond rfl rfl (fun h24 => ?_) (fun h24 => ?_)
    ·
      have hlt : i < C.length := by have := of_decide_eq_true h24; omega
      obtain ⟨s, hs⟩ := nth_some hlt
      obtain ⟨b1, o1, cs1, ha, _, hrow, htk⟩ := hv.elem hs
      refine xp_skip rfl ?_; refine xp_seq rfl ?_; refine xp_block rfl ?_; refine xp_draw (idx := [0, 1, 2, 3, 4, 5, 6, 7, 8, 9, 10, 11, 12]) rfl (by kernel_rfl) (by kernel_rfl) ?_; refine rp_rd rfl rfl rfl rfl rfl (rd_fieldAddr rfl rfl (fieldAddr_at Tryz.underlying24 rfl (by kernel_rfl))) ?_; refine rp_lk rfl rfl rfl rfl rfl (rd_load rfl rfl (load1_of (by kernel_rfl) (hl.get 0 rfl) rfl)) ?_; refine rp_rd rfl rfl rfl rfl rfl (rd_fieldAddr rfl rfl (fieldAddr_at Tryz.underlying27 rfl (by kernel_rfl))) ?_; refine rp_lk rfl rfl rfl rfl rfl (rd_load rfl rfl (load1_of (by kernel_rfl) (hl.get 2 rfl) rfl)) ?_
      refine rp_rd rfl rfl rfl rfl rfl (rd_move rfl rfl) ?_; refine rp_rd rfl rfl rfl rfl rfl (rd_indexAddr rfl rfl rfl (indexAddr_sl (z := 17) ha Tryz.underlying25 (by kernel_rfl) ⟨by omega, by omega⟩)) ?_; refine rp_lk rfl rfl rfl rfl rfl (rd_load rfl rfl (loadN_row (z := 17) (by kernel_rfl) (by kernel_rfl) (row_move (hl.since 1 rfl) hrow) htk)) ?_; refine rp_buildSliceR hF hl rfl rfl rfl rfl rfl Tryz.underlying25 rfl (c := s.cells) (by kernel_rfl) ?_; intro B34 S1 hg34 hr34 hl
      have hl := hl.mark
      refine rp_rd rfl rfl rfl rfl rfl (rd_build rfl rfl (v := aggL [.slice (some ⟨B34, 0, none⟩) 1 1, .bool false]) (by rfl)) ?_; refine rp_buildSliceR hF hl rfl rfl rfl rfl rfl Tryz.underlying22 rfl (c := [.slice (some ⟨B34, 0, none⟩) 1 1, .bool false]) (by kernel_rfl) ?_; intro B36 S1 hg36 hr36 hl
      refine rp_appendG hl 0 rfl rfl (by simp) rfl rfl rfl rfl rfl rfl rfl Tryz.underlying22 Tryz.underlying22 rfl rfl (by kernel_rfl) (src_row (new := [.slice (some ⟨B34, 0, none⟩) 1 1, .bool false]) hr36 rfl) rfl rfl (by kernel_rfl) (by show D.length + 1 ≤ maxNeed; unfold maxNeed; omega) ?_; intro v37 S1 hl; refine ⟨stays_all (by kernel_rfl), ?_⟩
      obtain ⟨av2, rfl⟩ : ∃ av2, v37 = .slice av2 (D.length + 1) (D.length + 1) := Grow.is (hl.gr _ (List.mem_cons_self ..))
      refine rp_rd rfl rfl rfl rfl rfl (rd_fieldAddr rfl rfl (fieldAddr_at Tryz.underlying24 rfl (by kernel_rfl))) ?_
      refine rp_storeL hl 0 rfl rfl rfl rfl rfl rfl rfl (by kernel_rfl) rfl ?_; intro S1 hl; refine ⟨stays_all (by kernel_rfl), ?_⟩
      refine rp_end rfl ?_; refine xp_region rfl (by kernel_rfl) ?_; refine re_rd rfl rfl rfl rfl (rd_move rfl rfl) ?_; refine re_rd rfl rfl rfl rfl (rd_bin rfl rfl rfl (congrArg some (congrArg (Value.int .i64) (IntWalk.i64_in _ (by omega))))) ?_; refine re_rd rfl rfl rfl rfl (rd_assign rfl rfl) ?_; refine re_end rfl ?_
      refine ⟨C.length - (i + 1), by omega, i + 1, D ++ [[.slice (some ⟨B34, 0, none⟩) 1 1, .bool false]], av2, by omega, rfl, ⟨rfl, rfl, rfl, rfl, trivial⟩, by rw [List.length_append, hDi]; rfl, ?_, ?_⟩
      · rw [take_map_nth hs]; exact (hpts.move (hl.since 1 rfl)).push ⟨_, rfl, signs_one (row_move (hl.since 0 rfl) hr34)⟩
      · rw [List.length_append, List.flatten_append]
        exact hl.marks (fun T hT => List.mem_cons_of_mem _ (List.mem_cons_of_mem _ hT))
    ·
      refine xp_exit rfl ?_; refine xp_seq rfl ?_; refine xp_region rfl (by kernel_rfl) ?_; refine re_rd rfl rfl rfl rfl (rd_load rfl rfl (loadN_of (z := 2) (by kernel_rfl) (by kernel_rfl) (hl.get 0 rfl) rfl)) ?_; refine re_storeL hl 1 rfl rfl rfl rfl rfl rfl rfl (by kernel_rfl) rfl ?_; intro S1 hl; refine re_rd rfl rfl rfl rfl (rd_assign rfl rfl) ?_; refine re_end rfl ?_; refine xp_ret rfl ?_
      refine done_ret (ress_cell rfl (loadN_of (z := 2) (by kernel_rfl) (by kernel_rfl) (hl.get 1 rfl) rfl) (ress_tmp rfl rfl)) ⟨hl.keep, ofres (ofR_2 h14) ⟨_, rfl, Grow.spots (hl.gr _ (List.mem_cons_self ..)) (by rw [List.take_of_length_le (by have := of_decide_eq_false h24; omega)] at hpts; exact hpts.move (hl.since 0 rfl))⟩⟩

noncomputable def c5 : Code := Tryz.f5.body.getD .skip
theorem spec5 (nm : ByteArray) (a : Option Addr) (cap : Nat) (C : List Sg) (most : Int) : CC Tryz.prog KK 5 [aggL [.string nm, .slice a C.length cap], .int .i64 most] S (fun v S' => Keep S S' ∧ v = .bool (lightF nm.data.toList C.length most)) := by
  refine cc_enter (c := c5) (n := 28) Tryz.func5 rfl rfl rfl (by kernel_rfl) rfl rfl ?_
  have hl := Hold.start S
  refine xp_seq rfl ?_; refine xp_region rfl (by kernel_rfl) ?_; refine re_boxL hl rfl rfl rfl rfl rfl rfl ?_; intro B2 S2 hl; refine re_rd rfl rfl rfl rfl (rd_assign rfl rfl) ?_; refine re_end rfl ?_; refine xe_sub (L' := [(1, .int .i64 most), (2, ptrTo B2 0)]) ⟨rfl, rfl, trivial⟩ ?_; refine xp_seq rfl (xe_toE hl 4 (.bool (lightF nm.data.toList C.length most)) ?_ rfl ?_)
  ·
    refine xp_region rfl (by kernel_rfl) ?_; refine re_rd rfl rfl rfl rfl (rd_fieldAddr rfl rfl (fieldAddr_at Tryz.underlying27 rfl (by kernel_rfl))) ?_; refine re_rd rfl rfl rfl rfl (rd_load rfl rfl (load1_of (by kernel_rfl) (hl.get 0 rfl) rfl)) ?_; refine re_rd rfl rfl rfl rfl (rd_len rfl rfl (len_string Tryz.underlying9)) ?_; refine re_rd rfl rfl rfl rfl (rd_bin rfl rfl rfl rfl) ?_; refine re_rd rfl rfl rfl rfl (rd_move rfl rfl) ?_; refine re_bool (d := 9) rfl (fun h9 => ?_) (fun h9 => ?_)
    ·
      refine re_rd rfl rfl rfl rfl (rd_fieldAddr rfl rfl (fieldAddr_at Tryz.underlying27 rfl (by kernel_rfl))) ?_; refine re_rd rfl rfl rfl rfl (rd_load rfl rfl (load1_of (by kernel_rfl) (hl.get 0 rfl) rfl)) ?_; refine re_rd rfl rfl rfl rfl (rd_len rfl rfl (len_slice Tryz.underlying25)) ?_; refine re_rd rfl rfl rfl rfl (rd_move rfl rfl) ?_; refine re_rd rfl rfl rfl rfl (rd_bin rfl rfl rfl rfl) ?_; refine re_rd rfl rfl rfl rfl (rd_move rfl rfl) ?_; refine re_bool (d := 15) rfl (fun h15 => ?_) (fun h15 => ?_)
      ·
        iterate 10 refine re_pass rfl rfl rfl rfl ?_
        iterate 2 refine re_rd rfl rfl rfl rfl (rd_pick_t rfl rfl rfl) ?_
        refine re_rd rfl rfl rfl rfl (rd_assign rfl rfl) ?_; refine re_end rfl ?_
        exact ⟨rfl, bl (by unfold lightF; simp only [h15, h9, BLs]), by repeat (first | exact subL_refl _ | refine subL_skip rfl ?_), hl⟩
      ·
        refine re_rd rfl rfl rfl rfl (rd_fieldAddr rfl rfl (fieldAddr_at Tryz.underlying27 rfl (by kernel_rfl))) ?_; refine re_rd rfl rfl rfl rfl (rd_load rfl rfl (load1_of (by kernel_rfl) (hl.get 0 rfl) rfl)) ?_; refine re_rd rfl rfl rfl rfl (rd_len rfl rfl (len_slice Tryz.underlying25)) ?_; refine re_rd rfl rfl rfl rfl (rd_bin rfl rfl rfl rfl) ?_; refine re_rd rfl rfl rfl rfl (rd_move rfl rfl) ?_; refine re_bool (d := 20) rfl (fun h20 => ?_) (fun h20 => ?_)
        ·
          refine re_rd rfl rfl rfl rfl (rd_fieldAddr rfl rfl (fieldAddr_at Tryz.underlying27 rfl (by kernel_rfl))) ?_; refine re_rd rfl rfl rfl rfl (rd_load rfl rfl (load1_of (by kernel_rfl) (hl.get 0 rfl) rfl)) ?_; refine re_rd rfl rfl rfl rfl (rd_len rfl rfl (len_slice Tryz.underlying25)) ?_; refine re_rd rfl rfl rfl rfl (rd_bin rfl rfl rfl rfl) ?_; refine re_rd rfl rfl rfl rfl (rd_pick_t rfl rfl rfl) ?_; refine re_rd rfl rfl rfl rfl (rd_pick_f rfl rfl rfl) ?_; refine re_rd rfl rfl rfl rfl (rd_pick_t rfl rfl rfl) ?_; refine re_rd rfl rfl rfl rfl (rd_assign rfl rfl) ?_; refine re_end rfl ?_
          exact ⟨rfl, bl (by unfold lightF; simp only [h20, h15, h9, BLs]), by repeat (first | exact subL_refl _ | refine subL_skip rfl ?_), hl⟩
        ·
          iterate 4 refine re_pass rfl rfl rfl rfl ?_
          iterate 2 refine re_rd rfl rfl rfl rfl (rd_pick_f rfl rfl rfl) ?_
          refine re_rd rfl rfl rfl rfl (rd_pick_t rfl rfl rfl) ?_; refine re_rd rfl rfl rfl rfl (rd_assign rfl rfl) ?_; refine re_end rfl ?_
          exact ⟨rfl, bl (by unfold lightF; simp only [h20, h15, h9, BLs]), by repeat (first | exact subL_refl _ | refine subL_skip rfl ?_), hl⟩
    ·
      iterate 17 refine re_pass rfl rfl rfl rfl ?_
      refine re_rd rfl rfl rfl rfl (rd_pick_f rfl rfl rfl) ?_; refine re_rd rfl rfl rfl rfl (rd_assign rfl rfl) ?_; refine re_end rfl ?_
      exact ⟨rfl, bl (by unfold lightF; simp only [h9, BLs]), by repeat (first | exact subL_refl _ | refine subL_skip rfl ?_), hl⟩
  intro S1 hl
  refine xp_ret rfl ?_
  refine done_ret (ress_tmp rfl rfl) ⟨hl.keep, rfl⟩

noncomputable def c13 : Code := Tryz.f13.body.getD .skip
theorem spec13 (a1 a2 : Option Addr) (cap1 cap2 : Nat) (l1 l2 : List Int) (hn : l1.length ≤ 1000000) (hv1 : Ints S (.slice a1 l1.length cap1) l1) (hv2 : Ints S (.slice a2 l2.length cap2) l2) : CC Tryz.prog KK 13 [.slice a1 l1.length cap1, .slice a2 l2.length cap2] S (fun v S' => Keep S S' ∧ v = .bool (decide (l1 = l2))) := by
  refine cc_enter (c := c13) (n := 26) Tryz.func13 rfl rfl rfl (by kernel_rfl) rfl rfl ?_
  have hl := Hold.start S
  refine xp_seq rfl ?_; refine xp_region rfl (by kernel_rfl) ?_; refine re_rd rfl rfl rfl rfl (rd_assign rfl rfl) ?_; refine re_end rfl ?_; iterate 2 refine xp_seq rfl ?_
  refine xp_region rfl (by kernel_rfl) ?_; refine re_rd rfl rfl rfl rfl (rd_move rfl rfl) ?_; refine re_rd rfl rfl rfl rfl (rd_len rfl rfl (len_slice Tryz.underlying34)) ?_; refine re_rd rfl rfl rfl rfl (rd_move rfl rfl) ?_; refine re_rd rfl rfl rfl rfl (rd_len rfl rfl (len_slice Tryz.underlying34)) ?_; refine re_rd rfl rfl rfl rfl (rd_bin rfl rfl rfl rfl) ?_; refine re_end rfl ?_; refine xp_cond rfl rfl (fun h10 => ?_) (fun h10 => ?_)
  ·
    refine xp_seq rfl ?_; refine xp_region rfl (by kernel_rfl) ?_; refine re_rd rfl rfl rfl rfl (rd_assign rfl rfl) ?_; refine re_end rfl ?_; refine xp_ret rfl ?_
    refine thn_ret (done_ret (ress_tmp rfl rfl) ⟨hl.keep, congrArg Value.bool (by symm; rw [decide_eq_false_iff_not]; rintro rfl; simp at h10)⟩)
  ·
    refine xp_skip rfl ?_; iterate 2 refine xp_seq rfl ?_
    refine xp_region rfl (by kernel_rfl) ?_; refine re_rd rfl rfl rfl rfl (rd_assign rfl rfl) ?_; refine re_end rfl ?_; refine xp_block rfl ?_
    -- LOOP
    have hlen : l1.length = l2.length := by simp at h10; omega
    refine xe_sub (L' := [(5, .int .i64 0), (0, .slice a1 l1.length cap1), (1, .slice a2 l2.length cap2)]) ⟨rfl, rfl, rfl, trivial⟩ ?_
    refine xp_loop rfl (fun m Le S' => ∃ i : Nat, i ≤ l1.length ∧ m = l1.length - i ∧ SubE [(5, .int .i64 (i : Int)), (0, .slice a1 l1.length cap1), (1, .slice a2 l2.length cap2)] Le ∧ (∀ j, j < i → nth l1 j = nth l2 j) ∧ Hold S [S] S' []) ?_ (m := l1.length) ⟨0, by omega, rfl, ⟨rfl, rfl, rfl, trivial⟩, fun j hj => by omega, hl⟩
    clear hl; rintro m Le S' ⟨i, hi, rfl, hsub, heq, hl⟩; refine xe_sub hsub ?_
    iterate 2 refine xp_seq rfl ?_
    refine xp_region rfl (by kernel_rfl) ?_; iterate 2 refine re_rd rfl rfl rfl rfl (rd_move rfl rfl) ?_
    refine re_rd rfl rfl rfl rfl (rd_len rfl rfl (len_slice Tryz.underlying34)) ?_; refine re_rd rfl rfl rfl rfl (rd_bin rfl rfl rfl rfl) ?_; refine re_end rfl ?_; refine xp_cond rfl rfl (fun h14 => ?_) (fun h14 => ?_)
    ·
      have hlt : i < l1.length := by have := of_decide_eq_true h14; omega
      obtain ⟨x, hx⟩ := nth_some hlt
      obtain ⟨y, hy⟩ := nth_some (hlen ▸ hlt)
      obtain ⟨b1, o1, cs1, ha1, _, hrow1, htk1⟩ := hv1.elem hx
      obtain ⟨b2, o2, cs2, ha2, _, hrow2, htk2⟩ := hv2.elem hy
      refine xp_skip rfl ?_; refine xp_seq rfl ?_; refine xp_block rfl ?_; refine xp_seq rfl ?_; refine xp_draw (idx := [0, 1, 2, 3, 4, 5, 6, 7, 8]) rfl (by kernel_rfl) (by kernel_rfl) ?_; iterate 2 refine rp_rd rfl rfl rfl rfl rfl (rd_move rfl rfl) ?_
      refine rp_rd rfl rfl rfl rfl rfl (rd_indexAddr rfl rfl rfl (indexAddr_sl (z := 1) ha1 Tryz.underlying34 (by kernel_rfl) ⟨by omega, by omega⟩)) ?_; refine rp_lk rfl rfl rfl rfl rfl (rd_load rfl rfl (load1_row (by kernel_rfl) (row_move (hl.since 0 rfl) hrow1) (tk_nth (j := 0) htk1 rfl))) ?_; iterate 2 refine rp_rd rfl rfl rfl rfl rfl (rd_move rfl rfl) ?_
      refine rp_rd rfl rfl rfl rfl rfl (rd_indexAddr rfl rfl rfl (indexAddr_sl (z := 1) ha2 Tryz.underlying34 (by kernel_rfl) ⟨by omega, by omega⟩)) ?_; refine rp_lk rfl rfl rfl rfl rfl (rd_load rfl rfl (load1_row (by kernel_rfl) (row_move (hl.since 0 rfl) hrow2) (tk_nth (j := 0) htk2 rfl))) ?_; refine rp_rd rfl rfl rfl rfl rfl (rd_bin rfl rfl rfl rfl) ?_; refine rp_end rfl ?_; refine xp_cond rfl rfl (fun h25 => ?_) (fun h25 => ?_)
      ·
        refine xp_seq rfl ?_; refine xp_region rfl (by kernel_rfl) ?_; refine re_rd rfl rfl rfl rfl (rd_assign rfl rfl) ?_; refine re_end rfl ?_; refine xp_ret rfl ?_
        refine blk_ret (thn_ret (round_ret (blk_ret (thn_ret (done_ret (ress_tmp rfl rfl) ⟨hl.keep, congrArg Value.bool (by symm; rw [decide_eq_false_iff_not]; rintro rfl; rw [hx] at hy; cases hy; simp at h25)⟩)))))
      ·
        refine xp_skip rfl ?_; refine xp_region rfl (by kernel_rfl) ?_; refine re_rd rfl rfl rfl rfl (rd_move rfl rfl) ?_; refine re_rd rfl rfl rfl rfl (rd_bin rfl rfl rfl rfl) ?_; refine re_rd rfl rfl rfl rfl (rd_assign rfl rfl) ?_; refine re_end rfl ?_
        refine ⟨l1.length - (i + 1), by omega, i + 1, by omega, rfl, ⟨congrArg some (congrArg (Value.int .i64) (IntWalk.i64_in _ (by omega))), rfl, rfl, trivial⟩, fun j hj => ?_, hl⟩
        rcases Nat.lt_succ_iff_lt_or_eq.1 hj with hj | rfl
        · exact heq j hj
        · rw [hx, hy]; congr 1; simpa using h25
    ·
      refine xp_exit rfl ?_; refine xp_seq rfl ?_; refine xp_region rfl (by kernel_rfl) ?_; refine re_rd rfl rfl rfl rfl (rd_assign rfl rfl) ?_; refine re_end rfl ?_; refine xp_ret rfl ?_
      refine done_ret (ress_tmp rfl rfl) ⟨hl.keep, congrArg Value.bool (by symm; rw [decide_eq_true_iff]; exact nth_ext hlen (fun j hj => heq j (by have := of_decide_eq_false h14; omega)))⟩

end Go.Proofs.YtgnhcamhcnkbfaaGreatDoor

/-
  source.find, Agrees, Choice, Of.
-/
import Derived.Test.YtgnhcamhcnkbfaaGreatDoorSm24
namespace Go.Proofs.YtgnhcamhcnkbfaaGreatDoor
open Go.Cm Go
set_option maxRecDepth 100000
variable {S : St}
def find3 (n1 n2 : List UInt8) (L : List Spt) (C : List Sg) (S : St) (v : Value) : Prop := ∃ w, v = tupV [w, .bool (findF n1 n2 L C).2.1, .int .i64 (findF n1 n2 L C).2.2] ∧ Ints S w (findF n1 n2 L C).1
theorem findF_1 {n1 n2 : List UInt8} {L : List Spt} {C : List Sg} (h : ((checkF n1 L).1 != 0) = true) : findF n1 n2 L C = ([], false, (checkF n1 L).1) := by unfold findF; rw [h]; rfl
theorem findF_2 {n1 n2 : List UInt8} {L : List Spt} {C : List Sg} (h : ((checkF n1 L).1 != 0) = false) (h2 : ((partE n2 C).1 != 0) = true) : findF n1 n2 L C = ([], false, (partE n2 C).1) := by unfold findF; rw [h, h2]; rfl
theorem findF_3 {n1 n2 : List UInt8} {L : List Spt} {C : List Sg} (h : ((checkF n1 L).1 != 0) = false) (h2 : ((partE n2 C).1 != 0) = false) : findF n1 n2 L C = (searchF n1 n2 L C, !difN n1 n2 L C, 0) := by
  unfold findF searchF
  rw [h, h2]
  show (bif difN n1 n2 L C then _ else _) = _
  cases difN n1 n2 L C <;> rfl
theorem find3_of {n1 n2 : List UInt8} {L : List Spt} {C : List Sg} {S : St} {w : Value} {l : List Int} {b : Bool} {e : Int} (h : findF n1 n2 L C = (l, b, e)) (hw : Ints S w l) : find3 n1 n2 L C S (tupV [w, .bool b, .int .i64 e]) := by
  unfold find3; rw [h]; exact ⟨w, rfl, hw⟩
noncomputable def c23 : Code := Tryz.f23.body.getD .skip
theorem spec23 (n1 n2 : ByteArray) (a1 a2 : Option Addr) (cap1 cap2 : Nat) (L : List Spt) (C : List Sg) (hn : L.length ≤ 1000) (hm : C.length ≤ 1000) (hs : ∀ x, x ∈ L → x.signs.length ≤ 1000) (hv : Spots S (.slice a1 L.length cap1) L) (hw : Signs S (.slice a2 C.length cap2) C) (hG : Gl S) : CC Tryz.prog KK 23 [aggL [.string n1, .slice a1 L.length cap1], aggL [.string n2, .slice a2 C.length cap2]] S (fun v S' => Keep S S' ∧ find3 n1.data.toList n2.data.toList L C S' v) := by
  refine cc_enter (c := c23) (n := 37) Tryz.func23 rfl rfl rfl (by kernel_rfl) rfl rfl ?_
  have hl := Hold.start S
  refine xp_seq rfl ?_; refine xp_region rfl (by kernel_rfl) ?_; refine re_boxL hl rfl rfl rfl rfl rfl rfl ?_; intro B2 S2 hl; refine re_boxL hl rfl rfl rfl rfl rfl rfl ?_; intro B3 S3 hl; iterate 3 refine re_rd rfl rfl rfl rfl (rd_assign rfl rfl) ?_
  refine re_end rfl ?_; iterate 2 refine xp_seq rfl ?_
  refine xp_region rfl (by kernel_rfl) ?_; refine re_rd rfl rfl rfl rfl (rd_load rfl rfl (loadN_of (z := 2) (by kernel_rfl) (by kernel_rfl) (hl.get 1 rfl) rfl)) ?_
  refine re_callL hl rfl rfl rfl rfl rfl rfl rfl (spec41 n1 a1 cap1 L hn hs (hG.keep hl.keep) (hv.move (hl.since 0 rfl))) ?_; rintro v S1 hk1 rfl hl
  refine re_rd rfl rfl rfl rfl (rd_move rfl rfl) ?_; iterate 2 refine re_rd rfl rfl rfl rfl (rd_extract rfl rfl rfl) ?_
  iterate 2 refine re_rd rfl rfl rfl rfl (rd_assign rfl rfl) ?_
  refine re_end rfl ?_; refine xp_seq rfl ?_; refine xp_region rfl (by kernel_rfl) ?_; refine re_rd rfl rfl rfl rfl (rd_move rfl rfl) ?_; refine re_rd rfl rfl rfl rfl (rd_bin rfl rfl rfl rfl) ?_; refine re_end rfl ?_; refine xp_cond rfl rfl (fun h19 => ?_) (fun h19 => ?_)
  ·
    refine xp_seq rfl ?_; refine xp_region rfl (by kernel_rfl) ?_; refine re_rd rfl rfl rfl rfl (rd_move rfl rfl) ?_; iterate 3 refine re_rd rfl rfl rfl rfl (rd_assign rfl rfl) ?_
    refine re_end rfl ?_; refine xp_ret rfl ?_
    refine thn_ret (done_ret (ress_tmp rfl (ress_tmp rfl (ress_tmp rfl rfl))) ⟨hl.keep, find3_of (findF_1 h19) (ints_nil _)⟩)
  ·
    refine xp_skip rfl ?_; iterate 2 refine xp_seq rfl ?_
    refine xp_region rfl (by kernel_rfl) ?_; refine re_rd rfl rfl rfl rfl (rd_load rfl rfl (loadN_of (z := 2) (by kernel_rfl) (by kernel_rfl) (hl.get 0 rfl) rfl)) ?_
    refine re_callL hl rfl rfl rfl rfl rfl rfl rfl (spec27 n2 a2 cap2 C hm (hG.keep hl.keep) (hw.move (hl.since 0 rfl))) ?_; rintro v S1 hk1 rfl hl
    refine re_rd rfl rfl rfl rfl (rd_move rfl rfl) ?_; iterate 2 refine re_rd rfl rfl rfl rfl (rd_extract rfl rfl rfl) ?_
    iterate 2 refine re_rd rfl rfl rfl rfl (rd_assign rfl rfl) ?_
    refine re_end rfl ?_; refine xp_seq rfl ?_; refine xp_region rfl (by kernel_rfl) ?_; refine re_rd rfl rfl rfl rfl (rd_move rfl rfl) ?_; refine re_rd rfl rfl rfl rfl (rd_bin rfl rfl rfl rfl) ?_; refine re_end rfl ?_; refine xp_cond rfl rfl (fun h27 => ?_) (fun h27 => ?_)
    ·
      refine xp_seq rfl ?_; refine xp_region rfl (by kernel_rfl) ?_; refine re_rd rfl rfl rfl rfl (rd_move rfl rfl) ?_; iterate 3 refine re_rd rfl rfl rfl rfl (rd_assign rfl rfl) ?_
      refine re_end rfl ?_; refine xp_ret rfl ?_
      refine thn_ret (done_ret (ress_tmp rfl (ress_tmp rfl (ress_tmp rfl rfl))) ⟨hl.keep, find3_of (findF_2 h19 h27) (ints_nil _)⟩)
    ·
      refine xp_skip rfl ?_; refine xp_seq rfl ?_; refine xp_region rfl (by kernel_rfl) ?_; refine re_rd rfl rfl rfl rfl (rd_load rfl rfl (loadN_of (z := 2) (by kernel_rfl) (by kernel_rfl) (hl.get 1 rfl) rfl)) ?_; refine re_rd rfl rfl rfl rfl (rd_load rfl rfl (loadN_of (z := 2) (by kernel_rfl) (by kernel_rfl) (hl.get 0 rfl) rfl)) ?_
      refine re_callL hl rfl rfl rfl rfl rfl rfl rfl (spec42 n1 n2 a1 a2 cap1 cap2 L C hn hm hs (hv.move (hl.since 0 rfl)) (hw.move (hl.since 0 rfl))) ?_; rintro v S1 hk1 ⟨w, rfl, hws⟩ hl
      refine re_rd rfl rfl rfl rfl (rd_move rfl rfl) ?_; iterate 2 refine re_rd rfl rfl rfl rfl (rd_extract rfl rfl rfl) ?_
      iterate 2 refine re_rd rfl rfl rfl rfl (rd_assign rfl rfl) ?_
      refine re_end rfl ?_; refine xp_seq rfl ?_; refine xp_region rfl (by kernel_rfl) ?_; iterate 2 refine re_rd rfl rfl rfl rfl (rd_move rfl rfl) ?_
      iterate 3 refine re_rd rfl rfl rfl rfl (rd_assign rfl rfl) ?_
      refine re_end rfl ?_; refine xp_ret rfl ?_
      refine done_ret (ress_tmp rfl (ress_tmp rfl (ress_tmp rfl rfl))) ⟨hl.keep, find3_of (findF_3 h19 h27) hws⟩

noncomputable def c7 : Code := Tryz.f7.body.getD .skip
theorem spec7 (n1 n2 : ByteArray) (a1 a2 : Option Addr) (cap1 cap2 : Nat) (L : List Spt) (C : List Sg) (hn : L.length ≤ 1000) (hm : C.length ≤ 1000) (hs : ∀ x, x ∈ L → x.signs.length ≤ 1000) (hv : Spots S (.slice a1 L.length cap1) L) (hw : Signs S (.slice a2 C.length cap2) C) (hG : Gl S) : CC Tryz.prog KK 7 [aggL [.string n1, .slice a1 L.length cap1], aggL [.string n2, .slice a2 C.length cap2]] S (fun v S' => Keep S S' ∧ v = tupV [.bool (findF n1.data.toList n2.data.toList L C).2.1, .int .i64 (findF n1.data.toList n2.data.toList L C).2.2]) := by
  refine cc_enter (c := c7) (n := 18) Tryz.func7 rfl rfl rfl (by kernel_rfl) rfl rfl ?_
  have hl := Hold.start S
  refine xp_seq rfl ?_; refine xp_region rfl (by kernel_rfl) ?_; refine re_boxL hl rfl rfl rfl rfl rfl rfl ?_; intro B2 S2 hl; refine re_boxL hl rfl rfl rfl rfl rfl rfl ?_; intro B3 S3 hl; iterate 2 refine re_rd rfl rfl rfl rfl (rd_assign rfl rfl) ?_
  refine re_end rfl ?_; refine xp_seq rfl ?_; refine xp_region rfl (by kernel_rfl) ?_; refine re_rd rfl rfl rfl rfl (rd_load rfl rfl (loadN_of (z := 2) (by kernel_rfl) (by kernel_rfl) (hl.get 1 rfl) rfl)) ?_; refine re_rd rfl rfl rfl rfl (rd_load rfl rfl (loadN_of (z := 2) (by kernel_rfl) (by kernel_rfl) (hl.get 0 rfl) rfl)) ?_
  refine re_callL hl rfl rfl rfl rfl rfl rfl rfl (spec23 n1 n2 a1 a2 cap1 cap2 L C hn hm hs (hv.move (hl.since 0 rfl)) (hw.move (hl.since 0 rfl)) (hG.keep hl.keep)) ?_; rintro v S1 hk1 ⟨w, rfl, hws⟩ hl
  refine re_rd rfl rfl rfl rfl (rd_move rfl rfl) ?_; iterate 3 refine re_rd rfl rfl rfl rfl (rd_extract rfl rfl rfl) ?_
  iterate 3 refine re_rd rfl rfl rfl rfl (rd_assign rfl rfl) ?_
  refine re_end rfl ?_; refine xp_seq rfl ?_; refine xp_region rfl (by kernel_rfl) ?_; iterate 2 refine re_rd rfl rfl rfl rfl (rd_move rfl rfl) ?_
  iterate 2 refine re_rd rfl rfl rfl rfl (rd_assign rfl rfl) ?_
  refine re_end rfl ?_; refine xp_ret rfl ?_
  refine done_ret (ress_tmp rfl (ress_tmp rfl rfl)) ⟨hl.keep, rfl⟩

noncomputable def c9 : Code := Tryz.f9.body.getD .skip
theorem spec9 (n1 n2 : ByteArray) (a1 a2 : Option Addr) (cap1 cap2 : Nat) (L : List Spt) (C : List Sg) (hn : L.length ≤ 1000) (hm : C.length ≤ 1000) (hs : ∀ x, x ∈ L → x.signs.length ≤ 1000) (hv : Spots S (.slice a1 L.length cap1) L) (hw : Signs S (.slice a2 C.length cap2) C) (hG : Gl S) : CC Tryz.prog KK 9 [aggL [.string n1, .slice a1 L.length cap1], aggL [.string n2, .slice a2 C.length cap2]] S (fun v S' => Keep S S' ∧ (∃ w, v = tupV [w, .int .i64 (choiceF n1.data.toList n2.data.toList L C).2] ∧ Ints S' w (choiceF n1.data.toList n2.data.toList L C).1)) := by
  refine cc_enter (c := c9) (n := 24) Tryz.func9 rfl rfl rfl (by kernel_rfl) rfl rfl ?_
  have hl := Hold.start S
  refine xp_seq rfl ?_; refine xp_region rfl (by kernel_rfl) ?_; refine re_boxL hl rfl rfl rfl rfl rfl rfl ?_; intro B2 S2 hl; refine re_boxL hl rfl rfl rfl rfl rfl rfl ?_; intro B3 S3 hl; iterate 2 refine re_rd rfl rfl rfl rfl (rd_assign rfl rfl) ?_
  refine re_end rfl ?_; refine xp_seq rfl ?_; refine xp_region rfl (by kernel_rfl) ?_; refine re_rd rfl rfl rfl rfl (rd_load rfl rfl (loadN_of (z := 2) (by kernel_rfl) (by kernel_rfl) (hl.get 1 rfl) rfl)) ?_; refine re_rd rfl rfl rfl rfl (rd_load rfl rfl (loadN_of (z := 2) (by kernel_rfl) (by kernel_rfl) (hl.get 0 rfl) rfl)) ?_
  refine re_callL hl rfl rfl rfl rfl rfl rfl rfl (spec23 n1 n2 a1 a2 cap1 cap2 L C hn hm hs (hv.move (hl.since 0 rfl)) (hw.move (hl.since 0 rfl)) (hG.keep hl.keep)) ?_; rintro v S1 hk1 ⟨w, rfl, hws⟩ hl
  refine re_rd rfl rfl rfl rfl (rd_move rfl rfl) ?_; iterate 3 refine re_rd rfl rfl rfl rfl (rd_extract rfl rfl rfl) ?_
  iterate 3 refine re_rd rfl rfl rfl rfl (rd_assign rfl rfl) ?_
  refine re_end rfl ?_
  have hl := hl.mark
  refine xp_seq rfl (xe_to [(8, .int .i64 (choiceF n1.data.toList n2.data.toList L C).2), (6, w)] (fun S' => HoldG S [S1, S] S' [(B3, .cells [.string n2, .slice a2 C.length cap2] 27 false true []), (B2, .cells [.string n1, .slice a1 L.length cap1] 24 false true [])] []) ?_ ?_)
  ·
    refine xp_seq rfl (xe_toE hl 21 (.bool ((findF n1.data.toList n2.data.toList L C).2.2 == 0 && !(findF n1.data.toList n2.data.toList L C).2.1)) ?_ rfl ?_)
    ·
      refine xp_region rfl (by kernel_rfl) ?_; refine re_rd rfl rfl rfl rfl (rd_move rfl rfl) ?_; refine re_rd rfl rfl rfl rfl (rd_bin rfl rfl rfl rfl) ?_; refine re_rd rfl rfl rfl rfl (rd_move rfl rfl) ?_; refine re_bool (d := 18) rfl (fun h18 => ?_) (fun h18 => ?_)
      ·
        refine re_rd rfl rfl rfl rfl (rd_move rfl rfl) ?_; refine re_rd rfl rfl rfl rfl (rd_un rfl rfl rfl) ?_; refine re_rd rfl rfl rfl rfl (rd_pick_t rfl rfl rfl) ?_; refine re_end rfl ?_
        exact ⟨rfl, bl (by rw [h18]; rfl), by repeat (first | exact subL_refl _ | refine subL_skip rfl ?_), hl⟩
      ·
        iterate 2 refine re_pass rfl rfl rfl rfl ?_
        refine re_rd rfl rfl rfl rfl (rd_pick_f rfl rfl rfl) ?_; refine re_end rfl ?_
        exact ⟨rfl, bl (by rw [h18]; rfl), by repeat (first | exact subL_refl _ | refine subL_skip rfl ?_), hl⟩
    intro S1 hl
    refine xp_cond rfl rfl (fun h21 => ?_) (fun h21 => ?_)
    ·
      refine xp_region rfl (by kernel_rfl) ?_; refine re_rd rfl rfl rfl rfl (rd_assign rfl rfl) ?_; refine re_end rfl ?_
      exact ⟨rfl, ⟨congrArg some (congrArg (Value.int .i64) (by unfold choiceF; rw [h21]; rfl)), rfl, trivial⟩, hl⟩
    ·
      refine xp_skip rfl ?_
      exact ⟨rfl, ⟨congrArg some (congrArg (Value.int .i64) (by unfold choiceF; rw [h21]; rfl)), rfl, trivial⟩, hl⟩
  intro S1 hl
  refine xp_seq rfl ?_; refine xp_region rfl (by kernel_rfl) ?_; iterate 2 refine re_rd rfl rfl rfl rfl (rd_move rfl rfl) ?_
  iterate 2 refine re_rd rfl rfl rfl rfl (rd_assign rfl rfl) ?_
  refine re_end rfl ?_; refine xp_ret rfl ?_
  refine done_ret (ress_tmp rfl (ress_tmp rfl rfl)) ⟨hl.keep, ⟨w, rfl, hws.move (hl.since 0 rfl)⟩⟩

def ofR (nm : ByteArray) (C : List Sg) : Int × ByteArray × List Spt := bif (partE nm.data.toList C).1 != 0 then ((partE nm.data.toList C).1, noName, []) else (0, nm, C.map fun s => ⟨[s], false⟩)
theorem ofR_1 {nm : ByteArray} {C : List Sg} (h : ((partE nm.data.toList C).1 != 0) = true) : ofR nm C = ((partE nm.data.toList C).1, noName, []) := by unfold ofR; rw [h]; rfl
theorem ofR_2 {nm : ByteArray} {C : List Sg} (h : ((partE nm.data.toList C).1 != 0) = false) : ofR nm C = (0, nm, C.map fun s => ⟨[s], false⟩) := by unfold ofR; rw [h]; rfl
theorem ofres {nm nm2 : ByteArray} {C : List Sg} {S : St} {w : Value} {e : Int} {out : List Spt} (h : ofR nm C = (e, nm2, out)) (hs : SrcAt S w nm2 out) :
    ∃ w', tupV [w, .int .i64 e] = tupV [w', .int .i64 (ofR nm C).1] ∧ SrcAt S w' (ofR nm C).2.1 (ofR nm C).2.2 := by
  rw [h]; exact ⟨w, rfl, hs⟩
theorem take_map_nth {C : List Sg} {i : Nat} {s : Sg} (h : nth C i = some s) : (C.take (i + 1)).map (fun s => (⟨[s], false⟩ : Spt)) = (C.take i).map (fun s => ⟨[s], false⟩) ++ [⟨[s], false⟩] := by rw [take_nth' h, List.map_append]; rfl
theorem signs_one {S : St} {b : Nat} {s : Sg} (h : RowAt S b 54 s.cells) : Signs S (.slice (some ⟨b, 0, none⟩) 1 1) [s] :=
  .inr ⟨b, 0, 1, s.cells, rfl, Nat.le_refl _, h, fun k x hk => by
    cases k with
    | zero => cases hk; rfl
    | succ k => cases k <;> cases hk⟩
noncomputable def c11 : Code := Tryz.f11.body.getD .skip
theorem spec11 (nm : ByteArray) (a : Option Addr) (cap : Nat) (C : List Sg) (hn : C.length ≤ 1000) (hG : Gl S) (hv : Signs S (.slice a C.length cap) C) : CC Tryz.prog KK 11 [aggL [.string nm, .slice a C.length cap]] S (fun v S' => Keep S S' ∧ (∃ w, v = tupV [w, .int .i64 (ofR nm C).1] ∧ SrcAt S' w (ofR nm C).2.1 (ofR nm C).2.2)) := by
  refine cc_enter (c := c11) (n := 38) Tryz.func11 rfl rfl rfl (by kernel_rfl) rfl rfl ?_
  have hl := Hold.start S
  refine xp_seq rfl ?_; refine xp_region rfl (by kernel_rfl) ?_; refine re_boxL hl rfl rfl rfl rfl rfl rfl ?_; intro B1 S1 hl; refine re_allocL hl rfl rfl rfl rfl rfl (z := [.string noName, .slice none 0 0]) (by kernel_rfl) ?_; intro B2 S2 hl; refine re_rd rfl rfl rfl rfl (rd_assign rfl rfl) ?_; refine re_end rfl ?_; iterate 2 refine xp_seq rfl ?_
  refine xp_region rfl (by kernel_rfl) ?_; refine re_rd rfl rfl rfl rfl (rd_load rfl rfl (loadN_of (z := 2) (by kernel_rfl) (by kernel_rfl) (hl.get 1 rfl) rfl)) ?_
  refine re_callL hl rfl rfl rfl rfl rfl rfl rfl (spec27 nm a cap C hn (hG.keep hl.keep) (hv.move (hl.since 0 rfl))) ?_; rintro v S1 hk1 rfl hl
  refine re_rd rfl rfl rfl rfl (rd_move rfl rfl) ?_; iterate 2 refine re_rd rfl rfl rfl rfl (rd_extract rfl rfl rfl) ?_
  iterate 2 refine re_rd rfl rfl rfl rfl (rd_assign rfl rfl) ?_
  refine re_end rfl ?_; refine xp_seq rfl ?_; refine xp_region rfl (by kernel_rfl) ?_; refine re_rd rfl rfl rfl rfl (rd_move rfl rfl) ?_; refine re_rd rfl rfl rfl rfl (rd_bin rfl rfl rfl  rfl) ?_; refine re_end rfl ?_; refine xp_cond rfl rfl (fun h15 => ?_) (fun h15 => ?_)
  ·
    refine xp_seq rfl ?_; refine xp_region rfl (by kernel_rfl) ?_; refine re_rd rfl rfl rfl rfl (rd_build rfl rfl (v := aggL [.string noName, .slice none 0 0]) (by rfl)) ?_; refine re_rd rfl rfl rfl rfl (rd_move rfl rfl) ?_; refine re_storeL hl 0 rfl rfl rfl rfl rfl rfl rfl (by kernel_rfl) rfl ?_; intro S1 hl; refine re_rd rfl rfl rfl rfl (rd_assign rfl rfl) ?_; refine re_end rfl ?_; refine xp_ret rfl ?_
    refine thn_ret (done_ret (ress_cell rfl (loadN_of (z := 2) (by kernel_rfl) (by kernel_rfl) (hl.get 0 rfl) rfl) (ress_tmp rfl rfl)) ⟨hl.keep, ofres (ofR_1 h15) (src_none _)⟩)
  ·
    refine xp_skip rfl ?_; refine xp_seq rfl ?_; refine xp_region rfl (by kernel_rfl) ?_; refine re_rd rfl rfl rfl rfl (rd_fieldAddr rfl rfl (fieldAddr_at Tryz.underlying27 rfl (by kernel_rfl))) ?_; refine re_rd rfl rfl rfl rfl (rd_load rfl rfl (load1_of (by kernel_rfl) (hl.get 1 rfl) rfl)) ?_; refine re_rd rfl rfl rfl rfl (rd_build rfl rfl (v := aggL [.string nm, .slice none 0 0]) (by rfl)) ?_; refine re_allocL hl rfl rfl rfl rfl rfl (z := [.string noName, .slice none 0 0]) (by kernel_rfl) ?_; intro B6 S6 hl; refine re_storeL hl 0 rfl rfl rfl rfl rfl rfl rfl (by kernel_rfl) rfl ?_; intro S1 hl
    refine re_end rfl ?_; iterate 2 refine xp_seq rfl ?_
    refine xp_region rfl (by kernel_rfl) ?_; refine re_rd rfl rfl rfl rfl (rd_fieldAddr rfl rfl (fieldAddr_at Tryz.underlying27 rfl (by kernel_rfl))) ?_; refine re_rd rfl rfl rfl rfl (rd_load rfl rfl (load1_of (by kernel_rfl) (hl.get 2 rfl) rfl)) ?_; refine re_rd rfl rfl rfl rfl (rd_len rfl rfl (len_slice Tryz.underlying25)) ?_; refine re_rd rfl rfl rfl rfl (rd_move rfl rfl) ?_; refine re_end rfl ?_; refine xp_block rfl ?_
    -- LOOP
    have hl := hl.addG (g := ⟨.slice none 0 0, 43, 2, [], 0⟩) (.inl ⟨rfl, rfl, rfl⟩)
    refine xe_sub (L' := [(24, .int .i64 0), (23, .int .i64 C.length), (22, .slice a C.length cap), (6, ptrTo B6 0), (2, ptrTo B2 0), (1, ptrTo B1 0)]) ⟨rfl, rfl, rfl, rfl, rfl, rfl, trivial⟩ ?_
    refine xp_loop rfl (fun m Le S' => ∃ (i : Nat) (D : List (List Value)) (av : Option Addr), i ≤ C.length ∧ m = C.length - i ∧ SubE [(24, .int .i64 (i : Int)), (23, .int .i64 C.length), (22, .slice a C.length cap), (6, ptrTo B6 0), (2, ptrTo B2 0), (1, ptrTo B1 0)] Le ∧ D.length = i ∧ PtsAt S' D ((C.take i).map fun s => ⟨[s], false⟩) ∧ HoldG S [S] S' [(B6, .cells [.string nm, .slice av D.length D.length] 24 false true []), (B2, .cells [.string noName, .slice none 0 0] 24 false true []), (B1, .cells [.string nm, .slice a C.length cap] 27 false true [])] [⟨.slice av D.length D.length, 43, 2, D.flatten, D.length⟩]) ?_ (m := C.length) ⟨0, [], none, by omega, rfl, ⟨rfl, rfl, rfl, rfl, rfl, rfl, trivial⟩, rfl, ⟨rfl, fun d hd => (List.not_mem_nil hd).elim, fun k x h => by cases k <;> cases h⟩, hl⟩
    clear hl; rintro m Le Sh ⟨i, D, av, hi, rfl, hsub, hDi, hpts, hl⟩; refine xe_sub hsub ?_
    have hl := hl.mark
    refine xp_seq rfl ?_; refine xp_region rfl (by kernel_rfl) ?_; refine re_rd rfl rfl rfl rfl (rd_bin rfl rfl rfl  rfl) ?_; refine re_end rfl ?_; refine xp_seq rfl ?_; refine xp_cond rfl rfl (fun h25 => ?_) (fun h25 => ?_)
    ·
      have hlt : i < C.length := by have := of_decide_eq_true h25; omega
      obtain ⟨s, hs⟩ := nth_some hlt
      obtain ⟨b1, o1, cs1, ha, _, hrow, htk⟩ := hv.elem hs
      refine xp_skip rfl ?_; refine xp_seq rfl ?_; refine xp_block rfl ?_; refine xp_seq rfl ?_; refine xp_region rfl (by kernel_rfl) ?_; refine re_rd rfl rfl rfl rfl (rd_indexAddr rfl rfl rfl (indexAddr_sl (z := 17) ha Tryz.underlying25 (by kernel_rfl) ⟨by omega, by omega⟩)) ?_; refine re_rd rfl rfl rfl rfl (rd_load rfl rfl (loadN_row (z := 17) (by kernel_rfl) (by kernel_rfl) (row_move (hl.since 1 rfl) hrow) htk)) ?_
      refine re_allocL hl rfl rfl rfl rfl rfl (z := [.int .i64 0, .int .i64 0, .int .i64 0, .int .i64 0, .bool false, .int .i64 0, .bool false, .bool false, .int .i64 0, .int .i64 0, .int .i64 0, .int .i64 0, .bool false, .int .i64 0, .int .i64 0, .int .i64 0, .int .i64 0]) (by kernel_rfl) ?_; intro B8 S8 hl; refine re_storeL hl 0 rfl rfl rfl rfl rfl rfl rfl (by kernel_rfl) rfl ?_; intro S1 hl; refine re_end rfl ?_; refine xp_region rfl (by kernel_rfl) ?_; refine re_rd rfl rfl rfl rfl (rd_fieldAddr rfl rfl (fieldAddr_at Tryz.underlying24 rfl (by kernel_rfl))) ?_
      refine re_rd rfl rfl rfl rfl (rd_load rfl rfl (load1_of (by kernel_rfl) (hl.get 1 rfl) rfl)) ?_; refine re_rd rfl rfl rfl rfl (rd_load rfl rfl (loadN_of (z := 17) (by kernel_rfl) (by kernel_rfl) (hl.get 0 rfl) rfl)) ?_; refine re_buildSliceR hl rfl rfl rfl rfl rfl Tryz.underlying25 rfl (c := s.cells) (by kernel_rfl) ?_; intro B31 S1 hr31 hl
      have hl := hl.mark
      refine re_rd rfl rfl rfl rfl (rd_build rfl rfl (v := aggL [.slice (some ⟨B31, 0, none⟩) 1 1, .bool false]) (by rfl)) ?_; refine re_buildSliceR hl rfl rfl rfl rfl rfl Tryz.underlying22 rfl (c := [.slice (some ⟨B31, 0, none⟩) 1 1, .bool false]) (by kernel_rfl) ?_; intro B33 S1 hr33 hl; refine re_appendG hl 0 rfl rfl (by simp) rfl rfl rfl rfl rfl rfl rfl Tryz.underlying22 Tryz.underlying22 rfl rfl (by kernel_rfl) (src_row (new := [.slice (some ⟨B31, 0, none⟩) 1 1, .bool false]) hr33 rfl) rfl rfl (by kernel_rfl) (by show D.length + 1 ≤ maxNeed; unfold maxNeed; omega) ?_; intro v34 S1 hl
      obtain ⟨av2, rfl⟩ : ∃ av2, v34 = .slice av2 (D.length + 1) (D.length + 1) := Grow.is (hl.gr _ (List.mem_cons_self ..))
      refine re_rd rfl rfl rfl rfl (rd_fieldAddr rfl rfl (fieldAddr_at Tryz.underlying24 rfl (by kernel_rfl))) ?_; refine re_storeL hl 1 rfl rfl rfl rfl rfl rfl rfl (by kernel_rfl) rfl ?_; intro S1 hl; refine re_end rfl ?_; refine xp_region rfl (by kernel_rfl) ?_; refine re_rd rfl rfl rfl rfl (rd_bin rfl rfl rfl (congrArg some (congrArg (Value.int .i64) (IntWalk.i64_in _ (by omega))))) ?_; refine re_rd rfl rfl rfl rfl (rd_move rfl rfl) ?_; refine re_end rfl ?_
      refine ⟨C.length - (i + 1), by omega, i + 1, D ++ [[.slice (some ⟨B31, 0, none⟩) 1 1, .bool false]], av2, by omega, rfl, ⟨rfl, rfl, rfl, rfl, rfl, rfl, trivial⟩, by rw [List.length_append, hDi]; rfl, ?_, ?_⟩
      · rw [take_map_nth hs]; exact (hpts.move (hl.since 1 rfl)).push ⟨_, rfl, signs_one (row_move (hl.since 0 rfl) hr31)⟩
      · rw [List.length_append, List.flatten_append]
        exact HoldG.shrink hl (List.sublist_cons_self _ _) (fun g hg => hg) (fun T hT => List.mem_cons_of_mem _ (List.mem_cons_of_mem _ hT))
    ·
      refine xp_exit rfl ?_; refine xp_seq rfl ?_; refine xp_region rfl (by kernel_rfl) ?_; refine re_rd rfl rfl rfl rfl (rd_load rfl rfl (loadN_of (z := 2) (by kernel_rfl) (by kernel_rfl) (hl.get 0 rfl) rfl)) ?_; refine re_storeL hl 1 rfl rfl rfl rfl rfl rfl rfl (by kernel_rfl) rfl ?_; intro S1 hl; refine re_rd rfl rfl rfl rfl (rd_assign rfl rfl) ?_; refine re_end rfl ?_; refine xp_ret rfl ?_
      refine done_ret (ress_cell rfl (loadN_of (z := 2) (by kernel_rfl) (by kernel_rfl) (hl.get 1 rfl) rfl) (ress_tmp rfl rfl)) ⟨hl.keep, ofres (ofR_2 h15) ⟨_, rfl, Grow.spots (hl.gr _ (List.mem_cons_self ..)) (by rw [List.take_of_length_le (by have := of_decide_eq_false h25; omega)] at hpts; exact hpts.move (hl.since 0 rfl))⟩⟩

end Go.Proofs.YtgnhcamhcnkbfaaGreatDoor

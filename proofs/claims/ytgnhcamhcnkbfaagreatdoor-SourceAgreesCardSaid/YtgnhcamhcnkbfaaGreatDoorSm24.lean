/-
  source.search.
-/
import Derived.Test.YtgnhcamhcnkbfaaGreatDoorSm23
namespace Go.Proofs.YtgnhcamhcnkbfaaGreatDoor
open Go.Cm Go
set_option maxRecDepth 100000
variable {S : St}
def iv (x : Int) : Value := .int .i64 x
/-- the numbers of a slice -/
def Ints (S : St) (v : Value) (l : List Int) : Prop := SliceAt S 3 1 v (l.map fun x => [iv x])
theorem Ints.move {S S' : St} (h : RK S S') {v : Value} {l : List Int} (hs : Ints S v l) : Ints S' v l := SliceAt.move h hs
theorem Ints.is {S : St} {v : Value} {l : List Int} (h : Ints S v l) : ∃ a cap, v = .slice a l.length cap := by
  obtain ⟨a, cap, e⟩ := SliceAt.is h
  exact ⟨a, cap, by simpa using e⟩
theorem Ints.elem {S : St} {a : Option Addr} {len cap : Nat} {l : List Int} (h : Ints S (.slice a len cap) l) {k : Nat} {x : Int} (hk : nth l k = some x) :
    ∃ b o cs, a = some ⟨b, o, none⟩ ∧ len = l.length ∧ RowAt S b 3 cs ∧ takeN 1 (dropN (o + k * 1) cs) = some [iv x] := by
  obtain ⟨b, o, cs, h1, h2, h3, h4⟩ := SliceAt.elem h (nth_map (fun x => [iv x]) hk)
  exact ⟨b, o, cs, h1, by simpa using h2, h3, h4⟩
theorem ints_nil (S : St) : Ints S (.slice none 0 0) [] := .inl ⟨rfl, .inl rfl⟩
theorem flatI : ∀ l : List Int, (l.map fun x => [iv x]).flatten = l.map iv
  | [] => rfl
  | x :: l => by rw [List.map_cons, List.flatten_cons, flatI l]; rfl
theorem growI {S0 S : St} {v : Value} {l : List Int} (h : Grow S0 S ⟨v, 3, 1, l.map iv, l.length⟩) : Ints S v l :=
  Grow.sliceAt (g := ⟨v, 3, 1, l.map iv, l.length⟩) h (by simp) (flatI l).symm (fun x hx => by
    obtain ⟨s, _, rfl⟩ := List.mem_map.1 hx
    rfl)
theorem eq01 (b : Bool) : ((bif b then 1 else 0 : Int) == 0) = !b := by cases b <;> rfl
def condN (L : List Spt) (C : List Sg) (i k : Nat) : Bool := match nth C k with
  | some _ => canAt L C (i + 1) (k + 1)
  | none => false
def nF (L : List Spt) (C : List Sg) (i k : Nat) (x : Spt) : Int := match nth C k with
  | some y => bif canAt L C (i + 1) (k + 1) then idxF x.signs y 0 else -1
  | none => -1
theorem nF_yes {L : List Spt} {C : List Sg} {i k : Nat} {x : Spt} {y : Sg} (hy : nth C k = some y) (h : condN L C i k = true) : idxF x.signs y 0 = nF L C i k x := by
  unfold condN at h
  unfold nF
  rw [hy] at h ⊢
  have h' : canAt L C (i + 1) (k + 1) = true := h
  simp only [h', cond_true]
theorem nF_no {L : List Spt} {C : List Sg} {i k : Nat} {x : Spt} (h : condN L C i k = false) : -1 = nF L C i k x := by
  unfold condN at h
  unfold nF
  split at h
  · rename_i y hy
    simp only [h, cond_false]
  · rename_i hy
    rfl
theorem condN_lt {L : List Spt} {C : List Sg} {i k : Nat} (h : condN L C i k = true) : k < C.length := by
  unfold condN at h
  split at h
  · rename_i y hy; exact nth_lt hy
  · cases h
theorem choose_c (x : Spt) (r : List Spt) (y : Sg) (l : List Sg) : chooseF (x :: r) (y :: l) = bif canB r l && decide (y ∈ x.signs) then idxF x.signs y 0 :: chooseF r l else (x.signs.length : Int) :: chooseF r (y :: l) := by rw [chooseF]
theorem choose_n (x : Spt) (r : List Spt) : chooseF (x :: r) [] = (x.signs.length : Int) :: chooseF r [] := by rw [chooseF]
theorem choose_skip {L : List Spt} {C : List Sg} {i k : Nat} {x : Spt} (hx : nth L i = some x) (h : decide (nF L C i k x < 0) = true) : chooseF (L.drop i) (C.drop k) = (x.signs.length : Int) :: chooseF (L.drop (i + 1)) (C.drop k) := by
  rw [drop_nth' hx]
  by_cases hk : k < C.length
  · obtain ⟨y, hy⟩ := nth_some hk
    unfold nF at h
    rw [hy] at h
    rw [drop_nth' hy, choose_c]
    unfold canAt at h
    cases hc : canB (L.drop (i + 1)) (C.drop (k + 1)) with
    | false => rfl
    | true =>
      rw [hc] at h
      have hm := idxF_mem x.signs y 0
      have : decide (y ∈ x.signs) = false := by
        rw [← hm]
        simp only [cond_true, decide_eq_true_eq] at h
        simp only [decide_eq_false_iff_not]
        omega
      rw [this]; rfl
  · rw [show C.drop k = [] from List.drop_eq_nil_of_le (by omega), choose_n]
theorem choose_take {L : List Spt} {C : List Sg} {i k : Nat} {x : Spt} (hx : nth L i = some x) (h : decide (nF L C i k x < 0) = false) : chooseF (L.drop i) (C.drop k) = nF L C i k x :: chooseF (L.drop (i + 1)) (C.drop (k + 1)) ∧ k < C.length := by
  rw [drop_nth' hx]
  by_cases hk : k < C.length
  · obtain ⟨y, hy⟩ := nth_some hk
    refine ⟨?_, hk⟩
    unfold nF at h ⊢
    rw [hy] at h ⊢
    rw [drop_nth' hy, choose_c]
    unfold canAt at h ⊢
    cases hc : canB (L.drop (i + 1)) (C.drop (k + 1)) with
    | false => rw [hc] at h; simp at h
    | true =>
      rw [hc] at h
      have hm := idxF_mem x.signs y 0
      have : decide (y ∈ x.signs) = true := by
        rw [← hm]
        simp only [cond_true, decide_eq_false_iff_not] at h
        simp only [decide_eq_true_eq]
        omega
      rw [this]; rfl
  · unfold nF at h
    rw [nth_none (by omega)] at h
    simp at h
def difN (n1 n2 : List UInt8) (L : List Spt) (C : List Sg) : Bool := !sameBytes n1 n2 || !canAt L C 0 0
def searchF (n1 n2 : List UInt8) (L : List Spt) (C : List Sg) : List Int := bif difN n1 n2 L C then [] else chooseF L C
theorem searchF_no {n1 n2 : List UInt8} {L : List Spt} {C : List Sg} (h : difN n1 n2 L C = true) {S : St} : (∃ w, tupV [.slice none 0 0, .bool false] = tupV [w, .bool (!difN n1 n2 L C)] ∧ Ints S w (searchF n1 n2 L C)) := by
  unfold searchF; rw [h]; exact ⟨_, rfl, ints_nil S⟩
theorem searchF_yes {n1 n2 : List UInt8} {L : List Spt} {C : List Sg} {O : List Int} (h : difN n1 n2 L C = false) (ho : O ++ chooseF (L.drop L.length) [] = chooseF L C) {S : St} {w : Value} (hw : Ints S w O) : (∃ w', tupV [w, .bool true] = tupV [w', .bool (!difN n1 n2 L C)] ∧ Ints S w' (searchF n1 n2 L C)) := by
  unfold searchF; rw [h]
  rw [List.drop_length] at ho
  have : O = chooseF L C := by rw [← ho]; unfold chooseF; rw [List.append_nil]
  rw [← this]
  exact ⟨_, rfl, hw⟩
theorem choose_end {L : List Spt} {C : List Sg} {i k : Nat} (h : L.length ≤ i) : chooseF (L.drop i) (C.drop k) = [] := by
  rw [List.drop_eq_nil_of_le h]; unfold chooseF; rfl
noncomputable def c42 : Code := Tryz.f42.body.getD .skip
theorem spec42 (n1 n2 : ByteArray) (a1 a2 : Option Addr) (cap1 cap2 : Nat) (L : List Spt) (C : List Sg) (hn : L.length ≤ 1000) (hm : C.length ≤ 1000) (hs : ∀ x, x ∈ L → x.signs.length ≤ 1000) (hv : Spots S (.slice a1 L.length cap1) L) (hw : Signs S (.slice a2 C.length cap2) C) : CC Tryz.prog KK 42 [aggL [.string n1, .slice a1 L.length cap1], aggL [.string n2, .slice a2 C.length cap2]] S (fun v S' => Keep S S' ∧ (∃ w, v = tupV [w, .bool (!difN n1.data.toList n2.data.toList L C)] ∧ Ints S' w (searchF n1.data.toList n2.data.toList L C))) := by
  refine cc_enter (c := c42) (n := 73) Tryz.func42 rfl rfl rfl (by kernel_rfl) rfl rfl ?_
  have hl := Hold.start S
  refine xp_seq rfl ?_; refine xp_region rfl (by kernel_rfl) ?_; refine re_boxL hl rfl rfl rfl rfl rfl rfl ?_; intro B2 S2 hl; refine re_boxL hl rfl rfl rfl rfl rfl rfl ?_; intro B3 S3 hl; iterate 2 refine re_rd rfl rfl rfl rfl (rd_assign rfl rfl) ?_
  refine re_end rfl ?_; refine xp_seq rfl ?_; refine xp_region rfl (by kernel_rfl) ?_; refine re_rd rfl rfl rfl rfl (rd_load rfl rfl (loadN_of (z := 2) (by kernel_rfl) (by kernel_rfl) (hl.get 1 rfl) rfl)) ?_; refine re_rd rfl rfl rfl rfl (rd_load rfl rfl (loadN_of (z := 2) (by kernel_rfl) (by kernel_rfl) (hl.get 0 rfl) rfl)) ?_
  have hbl := hl.below
  have hk0 := hl.keep
  refine re_callL hl rfl rfl rfl rfl rfl rfl rfl (spec58 n1 n2 a1 a2 cap1 cap2 L C hn hm hs (hv.move (hl.since 0 rfl)) (hw.move (hl.since 0 rfl))) ?_; rintro v S1 hk1 ⟨M, D, rfl, hM1, hM2, hM3, hfit⟩ hl
  have hl := hl.addLast hbl hk0 hM1 hM2 hM3
  refine re_rd rfl rfl rfl rfl (rd_assign rfl rfl) ?_; refine re_end rfl ?_; refine xp_seq rfl ?_; refine xp_seq rfl (xe_toE hl 25 (.bool (difN n1.data.toList n2.data.toList L C)) ?_ rfl ?_)
  ·
    refine xp_region rfl (by kernel_rfl) ?_; refine re_rd rfl rfl rfl rfl (rd_fieldAddr rfl rfl (fieldAddr_at Tryz.underlying24 rfl (by kernel_rfl))) ?_; refine re_rd rfl rfl rfl rfl (rd_load rfl rfl (load1_of (by kernel_rfl) (hl.get 1 rfl) rfl)) ?_; refine re_rd rfl rfl rfl rfl (rd_fieldAddr rfl rfl (fieldAddr_at Tryz.underlying27 rfl (by kernel_rfl))) ?_; refine re_rd rfl rfl rfl rfl (rd_load rfl rfl (load1_of (by kernel_rfl) (hl.get 0 rfl) rfl)) ?_; refine re_rd rfl rfl rfl rfl (rd_bin rfl rfl rfl rfl) ?_; refine re_rd rfl rfl rfl rfl (rd_move rfl rfl) ?_
    refine re_bool (d := 20) rfl (fun h20 => ?_) (fun h20 => ?_)
    ·
      iterate 4 refine re_pass rfl rfl rfl rfl ?_
      refine re_rd rfl rfl rfl rfl (rd_pick_t rfl rfl rfl) ?_; refine re_end rfl ?_
      exact ⟨rfl, bl (by unfold difN; rw [h20]; rfl), by repeat (first | exact subL_refl _ | refine subL_skip rfl ?_), hl⟩
    ·
      refine re_rd rfl rfl rfl rfl (rd_move rfl rfl) ?_; refine re_rd rfl rfl rfl rfl (rd_build rfl rfl (v := aggL [.int .i64 0, .int .i64 0]) (by rfl)) ?_; refine re_rd rfl rfl rfl rfl (rd_lookup rfl rfl rfl ((lookup_of (k := ((0 : Int), (0 : Int))) Tryz.underlying113 (hl.get 2 rfl) kc2_eq (kc2_ok _) (z := .int .i64 0) (by kernel_rfl)).trans (congrArg some (hfit 0 0 (by omega) (by omega))))) ?_; refine re_rd rfl rfl rfl rfl (rd_bin rfl rfl rfl rfl) ?_; refine re_rd rfl rfl rfl rfl (rd_pick_f rfl rfl rfl) ?_; refine re_end rfl ?_
      exact ⟨rfl, bl (by unfold difN; rw [eq01, h20]; rfl), by repeat (first | exact subL_refl _ | refine subL_skip rfl ?_), hl⟩
  intro S1 hl
  refine xp_cond rfl rfl (fun h25 => ?_) (fun h25 => ?_)
  ·
    refine xp_seq rfl ?_; refine xp_region rfl (by kernel_rfl) ?_; iterate 2 refine re_rd rfl rfl rfl rfl (rd_assign rfl rfl) ?_
    refine re_end rfl ?_; refine xp_ret rfl ?_
    refine thn_ret (done_ret (ress_tmp rfl (ress_tmp rfl rfl)) ⟨hl.keep, searchF_no h25⟩)
  ·
    refine xp_skip rfl ?_; refine xp_seq rfl ?_; refine xp_region rfl (by kernel_rfl) ?_; refine re_rd rfl rfl rfl rfl (rd_assign rfl rfl) ?_; refine re_end rfl ?_; refine xp_seq rfl ?_; refine xp_region rfl (by kernel_rfl) ?_; refine re_rd rfl rfl rfl rfl (rd_assign rfl rfl) ?_; refine re_end rfl ?_; iterate 2 refine xp_seq rfl ?_
    refine xp_region rfl (by kernel_rfl) ?_; refine re_rd rfl rfl rfl rfl (rd_fieldAddr rfl rfl (fieldAddr_at Tryz.underlying24 rfl (by kernel_rfl))) ?_; refine re_rd rfl rfl rfl rfl (rd_load rfl rfl (load1_of (by kernel_rfl) (hl.get 1 rfl) rfl)) ?_; refine re_rd rfl rfl rfl rfl (rd_len rfl rfl (len_slice Tryz.underlying22)) ?_; refine re_rd rfl rfl rfl rfl (rd_move rfl rfl) ?_; refine re_end rfl ?_; refine xp_block rfl ?_
    -- LOOP
    refine xe_sub (L' := [(29, .int .i64 0), (8, .int .i64 0), (7, .slice none 0 0), (28, .int .i64 L.length), (27, .slice a1 L.length cap1), (6, .map (some M)), (3, ptrTo B3 0), (2, ptrTo B2 0)]) ⟨rfl, rfl, rfl, rfl, rfl, rfl, rfl, rfl, trivial⟩ ?_
    have hl := hl.addG (g := ⟨.slice none ([] : List Int).length ([] : List Int).length, 3, 1, (([] : List Int)).map iv, ([] : List Int).length⟩) (.inl ⟨rfl, rfl, rfl⟩)
    refine xp_loop rfl (fun m Le S' => ∃ (i k : Nat) (O : List Int) (av : Option Addr), i ≤ L.length ∧ m = L.length - i ∧ k ≤ C.length ∧ SubE [(29, .int .i64 (i : Int)), (8, .int .i64 (k : Int)), (7, .slice av O.length O.length), (28, .int .i64 L.length), (27, .slice a1 L.length cap1), (6, .map (some M)), (3, ptrTo B3 0), (2, ptrTo B2 0)] Le ∧ O ++ chooseF (L.drop i) (C.drop k) = chooseF L C ∧ O.length = i ∧ HoldG S [S] S' [(B3, .cells [.string n2, .slice a2 C.length cap2] 27 false true []), (B2, .cells [.string n1, .slice a1 L.length cap1] 24 false true []), (M, mapB kc2 D)] [⟨.slice av O.length O.length, 3, 1, (O).map iv, O.length⟩]) ?_ (m := L.length) ⟨0, 0, [], none, by omega, rfl, by omega, ⟨rfl, rfl, rfl, rfl, rfl, rfl, rfl, rfl, trivial⟩, rfl, rfl, hl⟩
    clear hl; rintro m Le S' ⟨i, k, O, av, hi, rfl, hk, hsub, hpr, hOi, hl⟩; refine xe_sub hsub ?_
    refine xp_seq rfl ?_; refine xp_region rfl (by kernel_rfl) ?_; refine re_rd rfl rfl rfl rfl (rd_bin rfl rfl rfl rfl) ?_; refine re_end rfl ?_; refine xp_seq rfl ?_; refine xp_cond rfl rfl (fun h30 => ?_) (fun h30 => ?_)
    ·
      have hlt : i < L.length := by have := of_decide_eq_true h30; omega
      obtain ⟨x, hx⟩ := nth_some hlt
      obtain ⟨bx, ox, csx, ax, capx, hax, hrowx, htkx, hsgx⟩ := hv.elem hx
      have hxs : x.signs.length ≤ 1000 := hs x (nth_mem hx)
      refine xp_skip rfl ?_; refine xp_seq rfl ?_; refine xp_block rfl ?_; refine xp_seq rfl ?_; refine xp_region rfl (by kernel_rfl) ?_; refine re_rd rfl rfl rfl rfl (rd_move rfl rfl) ?_; refine re_rd rfl rfl rfl rfl (rd_indexAddr rfl rfl rfl (indexAddr_sl (z := 2) hax Tryz.underlying22 (by kernel_rfl) ⟨by omega, by omega⟩)) ?_; refine re_rd rfl rfl rfl rfl (rd_load rfl rfl (loadN_row (z := 2) (by kernel_rfl) (by kernel_rfl) (row_move (hl.since 0 rfl) hrowx) htkx)) ?_; refine re_allocL hl rfl rfl rfl rfl rfl (z := [.slice none 0 0, .bool false]) (by kernel_rfl) ?_; intro B10 S10 hl
      refine re_rd rfl rfl rfl rfl (rd_assign rfl rfl) ?_; refine re_storeL hl 0 rfl rfl rfl rfl rfl rfl rfl (by kernel_rfl) rfl ?_; intro S1 hl; refine re_end rfl ?_; refine xp_seq rfl ?_; refine xp_region rfl (by kernel_rfl) ?_; refine re_rd rfl rfl rfl rfl (rd_assign rfl rfl) ?_; refine re_end rfl ?_
      refine xp_seq rfl (xe_to [(11, .int .i64 (nF L C i k x)), (10, ptrTo B10 0), (9, .int .i64 (i : Int)), (29, .int .i64 (i : Int)), (8, .int .i64 (k : Int)), (7, .slice av O.length O.length), (28, .int .i64 L.length), (27, .slice a1 L.length cap1), (6, .map (some M)), (3, ptrTo B3 0), (2, ptrTo B2 0)] (fun S' => HoldG S [S] S' [(B10, .cells [.slice ax x.signs.length capx, .bool x.blank] 43 false true []), (B3, .cells [.string n2, .slice a2 C.length cap2] 27 false true []), (B2, .cells [.string n1, .slice a1 L.length cap1] 24 false true []), (M, mapB kc2 D)] [⟨.slice av O.length O.length, 3, 1, (O).map iv, O.length⟩]) ?_ ?_)
      ·
        refine xp_seq rfl (xe_toE hl 48 (.bool (condN L C i k)) ?_ rfl ?_)
        ·
          refine xp_region rfl (by kernel_rfl) ?_; refine re_rd rfl rfl rfl rfl (rd_move rfl rfl) ?_; refine re_rd rfl rfl rfl rfl (rd_fieldAddr rfl rfl (fieldAddr_at Tryz.underlying27 rfl (by kernel_rfl))) ?_; refine re_rd rfl rfl rfl rfl (rd_load rfl rfl (load1_of (by kernel_rfl) (hl.get 1 rfl) rfl)) ?_; refine re_rd rfl rfl rfl rfl (rd_len rfl rfl (len_slice Tryz.underlying25)) ?_; refine re_rd rfl rfl rfl rfl (rd_bin rfl rfl rfl rfl) ?_; refine re_rd rfl rfl rfl rfl (rd_move rfl rfl) ?_; refine re_bool (d := 39) rfl (fun h39 => ?_) (fun h39 => ?_)
          ·
            have hlt2 : k < C.length := by have := of_decide_eq_true h39; omega
            obtain ⟨y, hy⟩ := nth_some hlt2
            iterate 2 refine re_rd rfl rfl rfl rfl (rd_move rfl rfl) ?_
            refine re_rd rfl rfl rfl rfl (rd_bin rfl rfl rfl (congrArg some (congrArg (Value.int .i64) (IntWalk.i64_in _ (by omega))))) ?_; refine re_rd rfl rfl rfl rfl (rd_move rfl rfl) ?_; refine re_rd rfl rfl rfl rfl (rd_bin rfl rfl rfl (congrArg some (congrArg (Value.int .i64) (IntWalk.i64_in _ (by omega))))) ?_; refine re_rd rfl rfl rfl rfl (rd_build rfl rfl (v := aggL [.int .i64 ((i : Int) + 1), .int .i64 ((k : Int) + 1)]) (by rfl)) ?_
            refine re_rd rfl rfl rfl rfl (rd_lookup rfl rfl rfl ((lookup_of (k := (((i : Int) + 1), ((k : Int) + 1))) Tryz.underlying113 (hl.get 3 rfl) kc2_eq (kc2_ok _) (z := .int .i64 0) (by kernel_rfl)).trans (congrArg some (hfit (i + 1) (k + 1) (by omega) (by omega))))) ?_; refine re_rd rfl rfl rfl rfl (rd_bin rfl rfl rfl  rfl) ?_; refine re_rd rfl rfl rfl rfl (rd_pick_t rfl rfl rfl) ?_; refine re_end rfl ?_
            exact ⟨rfl, bl (by rw [gt01]; unfold condN; rw [hy]), by repeat (first | exact subL_refl _ | refine subL_skip rfl ?_), hl⟩
          ·
            iterate 8 refine re_pass rfl rfl rfl rfl ?_
            refine re_rd rfl rfl rfl rfl (rd_pick_f rfl rfl rfl) ?_; refine re_end rfl ?_
            exact ⟨rfl, bl (by unfold condN; rw [nth_none (by have := of_decide_eq_false h39; omega)]), by repeat (first | exact subL_refl _ | refine subL_skip rfl ?_), hl⟩
        intro S1 hl
        refine xp_cond rfl rfl (fun h48 => ?_) (fun h48 => ?_)
        ·
          obtain ⟨y, hy⟩ := nth_some (condN_lt h48)
          have hlt3 := condN_lt h48
          obtain ⟨b5, o5, cs5, ha5, _, hrow5, htk5⟩ := hw.elem hy
          refine xp_draw (idx := [0, 1, 2, 3, 4, 5, 6, 7, 8]) rfl (by kernel_rfl) (by kernel_rfl) ?_; refine rp_rd rfl rfl rfl rfl rfl (rd_fieldAddr rfl rfl (fieldAddr_at Tryz.underlying43 rfl (by kernel_rfl))) ?_; refine rp_lk rfl rfl rfl rfl rfl (rd_load rfl rfl (load1_of (by kernel_rfl) (hl.get 0 rfl) rfl)) ?_; refine rp_rd rfl rfl rfl rfl rfl (rd_fieldAddr rfl rfl (fieldAddr_at Tryz.underlying27 rfl (by kernel_rfl))) ?_; refine rp_lk rfl rfl rfl rfl rfl (rd_load rfl rfl (load1_of (by kernel_rfl) (hl.get 1 rfl) rfl)) ?_; refine rp_rd rfl rfl rfl rfl rfl (rd_move rfl rfl) ?_
          refine rp_rd rfl rfl rfl rfl rfl (rd_indexAddr rfl rfl rfl (indexAddr_sl (z := 17) ha5 Tryz.underlying25 (by kernel_rfl) ⟨by omega, by omega⟩)) ?_; refine rp_lk rfl rfl rfl rfl rfl (rd_load rfl rfl (loadN_row (z := 17) (by kernel_rfl) (by kernel_rfl) (row_move (hl.since 0 rfl) hrow5) htk5)) ?_
          refine rp_callL hl rfl rfl rfl rfl rfl rfl rfl (spec59 ax capx x.signs y hxs (hsgx.move (hl.since 0 rfl))) ?_; rintro v S1 hk1 rfl hl; refine ⟨stays_all (by kernel_rfl), ?_⟩
          refine rp_rd rfl rfl rfl rfl rfl (rd_assign rfl rfl) ?_; refine rp_end rfl ?_
          exact ⟨rfl, ⟨congrArg some (congrArg (Value.int .i64) (nF_yes hy h48)), rfl, rfl, rfl, rfl, rfl, rfl, rfl, rfl, rfl, rfl, trivial⟩, hl⟩
        ·
          refine xp_skip rfl ?_
          exact ⟨rfl, ⟨congrArg some (congrArg (Value.int .i64) (nF_no h48)), rfl, rfl, rfl, rfl, rfl, rfl, rfl, rfl, rfl, rfl, trivial⟩, hl⟩
      intro S1 hl
      iterate 2 refine xp_seq rfl ?_
      refine xp_region rfl (by kernel_rfl) ?_; refine re_rd rfl rfl rfl rfl (rd_move rfl rfl) ?_; refine re_rd rfl rfl rfl rfl (rd_bin rfl rfl rfl  rfl) ?_; refine re_end rfl ?_; refine xp_cond rfl rfl (fun h58 => ?_) (fun h58 => ?_)
      ·
        refine xp_seq rfl ?_; refine xp_region rfl (by kernel_rfl) ?_; refine re_rd rfl rfl rfl rfl (rd_move rfl rfl) ?_; refine re_rd rfl rfl rfl rfl (rd_fieldAddr rfl rfl (fieldAddr_at Tryz.underlying43 rfl (by kernel_rfl))) ?_; refine re_rd rfl rfl rfl rfl (rd_load rfl rfl (load1_of (by kernel_rfl) (hl.get 0 rfl) rfl)) ?_; refine re_rd rfl rfl rfl rfl (rd_len rfl rfl (len_slice Tryz.underlying25)) ?_; refine re_buildSliceR hl rfl rfl rfl rfl rfl Tryz.underlying34 rfl (c := [iv (x.signs.length : Int)]) (by kernel_rfl) ?_; intro B63 S1 hr63 hl
        refine re_appendG hl 0 rfl rfl (by simp) rfl rfl rfl rfl rfl rfl rfl Tryz.underlying34 Tryz.underlying34 rfl rfl (by kernel_rfl) (src_row (new := [iv (x.signs.length : Int)]) hr63 rfl) rfl rfl (by kernel_rfl) (by show O.length + 1 ≤ maxNeed; unfold maxNeed; omega) ?_; intro v64 S1 hl
        obtain ⟨av2, rfl⟩ : ∃ av2, v64 = .slice av2 (O.length + 1) (O.length + 1) := Grow.is (hl.gr _ (List.mem_cons_self ..))
        refine re_rd rfl rfl rfl rfl (rd_assign rfl rfl) ?_; refine re_end rfl ?_; refine xp_exit rfl ?_; refine xp_region rfl (by kernel_rfl) ?_; refine re_rd rfl rfl rfl rfl (rd_bin rfl rfl rfl (congrArg some (congrArg (Value.int .i64) (IntWalk.i64_in _ (by omega))))) ?_; refine re_rd rfl rfl rfl rfl (rd_move rfl rfl) ?_; refine re_end rfl ?_
        refine ⟨L.length - (i + 1), by omega, i + 1, k, O ++ [(x.signs.length : Int)], av2, by omega, rfl, hk, ⟨rfl, rfl, congrArg some (congrArg (fun n => Value.slice av2 n n) (by rw [List.length_append]; rfl)), rfl, rfl, rfl, rfl, rfl, trivial⟩, ?_, by rw [List.length_append, hOi]; rfl, ?_⟩
        · rw [List.append_assoc, List.singleton_append, ← choose_skip hx h58]; exact hpr
        · rw [List.length_append, List.map_append]; exact hl.tail
      ·
        refine xp_skip rfl ?_; refine xp_seq rfl ?_; refine xp_region rfl (by kernel_rfl) ?_; iterate 2 refine re_rd rfl rfl rfl rfl (rd_move rfl rfl) ?_
        have hct := choose_take hx h58
        have hk2 := hct.2
        refine re_buildSliceR hl rfl rfl rfl rfl rfl Tryz.underlying34 rfl (c := [iv (nF L C i k x)]) (by kernel_rfl) ?_; intro B67 S1 hr67 hl; refine re_appendG hl 0 rfl rfl (by simp) rfl rfl rfl rfl rfl rfl rfl Tryz.underlying34 Tryz.underlying34 rfl rfl (by kernel_rfl) (src_row (new := [iv (nF L C i k x)]) hr67 rfl) rfl rfl (by kernel_rfl) (by show O.length + 1 ≤ maxNeed; unfold maxNeed; omega) ?_; intro v68 S1 hl
        obtain ⟨av2, rfl⟩ : ∃ av2, v68 = .slice av2 (O.length + 1) (O.length + 1) := Grow.is (hl.gr _ (List.mem_cons_self ..))
        refine re_rd rfl rfl rfl rfl (rd_assign rfl rfl) ?_; refine re_end rfl ?_; refine xp_region rfl (by kernel_rfl) ?_; refine re_rd rfl rfl rfl rfl (rd_move rfl rfl) ?_; refine re_rd rfl rfl rfl rfl (rd_bin rfl rfl rfl (congrArg some (congrArg (Value.int .i64) (IntWalk.i64_in _ (by omega))))) ?_; refine re_rd rfl rfl rfl rfl (rd_assign rfl rfl) ?_; refine re_end rfl ?_; refine xp_region rfl (by kernel_rfl) ?_; refine re_rd rfl rfl rfl rfl (rd_bin rfl rfl rfl (congrArg some (congrArg (Value.int .i64) (IntWalk.i64_in _ (by omega))))) ?_; refine re_rd rfl rfl rfl rfl (rd_move rfl rfl) ?_
        refine re_end rfl ?_
        refine ⟨L.length - (i + 1), by omega, i + 1, k + 1, O ++ [nF L C i k x], av2, by omega, rfl, by omega, ⟨rfl, rfl, congrArg some (congrArg (fun n => Value.slice av2 n n) (by rw [List.length_append]; rfl)), rfl, rfl, rfl, rfl, rfl, trivial⟩, ?_, by rw [List.length_append, hOi]; rfl, ?_⟩
        · rw [List.append_assoc, List.singleton_append, ← hct.1]; exact hpr
        · rw [List.length_append, List.map_append]; exact hl.tail
    ·
      refine xp_exit rfl ?_; refine xp_seq rfl ?_; refine xp_region rfl (by kernel_rfl) ?_; refine re_rd rfl rfl rfl rfl (rd_move rfl rfl) ?_; iterate 2 refine re_rd rfl rfl rfl rfl (rd_assign rfl rfl) ?_
      refine re_end rfl ?_; refine xp_ret rfl ?_
      refine done_ret (ress_tmp rfl (ress_tmp rfl rfl)) ⟨hl.keep, searchF_yes h25 (by rw [List.drop_length, ← hpr, choose_end (by have := of_decide_eq_false h30; omega)]; unfold chooseF; rfl) (growI (hl.gr _ (List.mem_cons_self ..)))⟩

end Go.Proofs.YtgnhcamhcnkbfaaGreatDoor

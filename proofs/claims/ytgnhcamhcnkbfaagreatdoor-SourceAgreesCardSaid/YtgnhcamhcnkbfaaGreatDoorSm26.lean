/-
  The reference: first.
-/
import Derived.Test.YtgnhcamhcnkbfaaGreatDoorSm25
namespace Go.Proofs.YtgnhcamhcnkbfaaGreatDoor
open Go.Cm Go
set_option maxRecDepth 100000
variable {S : St}
def slB (C : List Sg) (b : Nat) : Value := .slice (some ⟨b, 0, none⟩) (C.length + 1) (C.length + 1)
def canV (C : List Sg) (p : Nat) (bs : List Nat) : List Value := replL p [.slice none 0 0] ++ bs.map (slB C)
def rowP (L : List Spt) (C : List Sg) (a q : Nat) : List Value := (List.range' 0 (C.length + 1)).map fun k => .bool (decide (k < q) && canAt L C a k)
def rowV (L : List Spt) (C : List Sg) (a : Nat) : List Value := (List.range' 0 (C.length + 1)).map fun k => .bool (canAt L C a k)
def rowsL (L : List Spt) (C : List Sg) : Nat → List Nat → List (Nat × Blk)
  | _, [] => []
  | p, b :: r => (b, .cells (rowV L C p) 4 true true []) :: rowsL L C (p + 1) r
theorem canV_set (C : List Sg) (i b : Nat) (bs : List Nat) : setN (0 + i * 1) [slB C b] (canV C (i + 1) bs) = some (canV C i (b :: bs)) := by
  have h := setN_mid (x := .slice none 0 0) (y := slB C b) (r := bs.map (slB C)) (replL i [.slice none 0 0])
  rw [replL_len] at h
  rw [show 0 + i * 1 = i by omega]
  unfold canV
  rw [replL_succ, List.append_assoc]
  exact h
theorem canV_nth (C : List Sg) (i b : Nat) (bs : List Nat) : nth (canV C i (b :: bs)) (0 + i * 1) = some (slB C b) := by
  have h := nth_mid (x := slB C b) (r := bs.map (slB C)) (replL i [.slice none 0 0])
  rw [replL_len] at h
  rw [show 0 + i * 1 = i by omega]
  exact h
theorem canV_nth1 (C : List Sg) (i b b2 : Nat) (bs : List Nat) : nth (canV C i (b :: b2 :: bs)) (0 + (i + 1) * 1) = some (slB C b2) := by
  have h := nth_mid1 (x := slB C b) (y := slB C b2) (r := bs.map (slB C)) (replL i [.slice none 0 0])
  rw [replL_len] at h
  rw [show 0 + (i + 1) * 1 = i + 1 by omega]
  exact h
theorem rowP_0 (L : List Spt) (C : List Sg) (a : Nat) : replL (C.length + 1) [.bool false] = rowP L C a 0 := by
  rw [replL_range _ _ 0]
  unfold rowP
  refine List.map_congr_left fun k _ => ?_
  rw [show decide (k < 0) = false by simp]; rfl
theorem rowP_all (L : List Spt) (C : List Sg) (a : Nat) : rowP L C a (C.length + 1) = rowV L C a := by
  unfold rowP rowV
  refine List.map_congr_left fun k hk => ?_
  rw [List.mem_range'_1] at hk
  rw [show decide (k < C.length + 1) = true by rw [decide_eq_true_iff]; omega, Bool.true_and]
theorem rowP_store {L : List Spt} {C : List Sg} {i k : Nat} {b : Bool} (hb : b = canAt L C i k) (hk : k ≤ C.length) : setN (0 + k * 1) (cellsL (.bool b)) (rowP L C i k) = some (rowP L C i (k + 1)) := by
  subst hb
  have h := setN_range (fun j => .bool (decide (j < k) && canAt L C i j)) (fun j => .bool (decide (j < k + 1) && canAt L C i j)) (C.length + 1) 0 k (by omega) (fun j hj => by
    have : decide (j < k) = decide (j < k + 1) := by rw [Bool.eq_iff_iff]; simp; omega
    simp only [this])
  rw [show 0 + k * 1 = k by omega]
  rw [Nat.zero_add] at h
  simp only [show decide (k < k + 1) = true by simp, Bool.true_and] at h
  exact h
theorem rowV_nth {L : List Spt} {C : List Sg} {a k : Nat} (hk : k ≤ C.length) : nth (rowV L C a) (0 + k * 1) = some (.bool (canAt L C a k)) := by
  have h := nth_rangeM (fun k => Value.bool (canAt L C a k)) (C.length + 1) 0 k (by omega)
  rw [Nat.zero_add] at h
  rw [show 0 + k * 1 = k by omega]
  exact h
theorem canAt_last_row {L : List Spt} {C : List Sg} {i k : Nat} (hi : ((i : Int) == (L.length : Int)) = true) (hk : k ≤ C.length) : ((k : Int) == (C.length : Int)) = canAt L C i k := by
  obtain rfl : i = L.length := by have : (i : Int) = L.length := by simpa using hi
                                  omega
  rw [canAt_end hk]
  rw [Bool.eq_iff_iff]
  simp
  omega
theorem rowsL_mem {L : List Spt} {C : List Sg} : ∀ {bs : List Nat} {p j b : Nat}, nth bs j = some b → (b, Blk.cells (rowV L C (p + j)) 4 true true []) ∈ rowsL L C p bs
  | _ :: _, p, 0, b, h => by cases h; exact List.mem_cons_self ..
  | _ :: bs, p, j + 1, b, h => by
    have := rowsL_mem (L := L) (C := C) (bs := bs) (p := p + 1) (j := j) h
    rw [show p + (j + 1) = p + 1 + j by omega]
    exact List.mem_cons_of_mem _ this
def takeB (L : List Spt) (C : List Sg) (i k : Nat) (x : Spt) : Bool := match nth C k with
  | some y => decide (y ∈ x.signs) && canAt L C (i + 1) (k + 1)
  | none => false
theorem chooseR_c (x : Spt) (r : List Spt) (y : Sg) (l : List Sg) : chooseR (x :: r) (y :: l) = bif canB r l && decide (y ∈ x.signs) then posL x.signs y 0 ++ chooseR r l else (x.signs.length : Int) :: chooseR r (y :: l) := by rw [chooseR]
theorem chooseR_n (x : Spt) (r : List Spt) : chooseR (x :: r) [] = (x.signs.length : Int) :: chooseR r [] := by rw [chooseR]
theorem takeB_some {L : List Spt} {C : List Sg} {i k : Nat} {x : Spt} (hx : nth L i = some x) (h : takeB L C i k x = true) : ∃ y, nth C k = some y ∧ chooseR (L.drop i) (C.drop k) = posL x.signs y 0 ++ chooseR (L.drop (i + 1)) (C.drop (k + 1)) := by
  unfold takeB at h
  split at h
  · rename_i y hy
    refine ⟨y, hy, ?_⟩
    rw [drop_nth' hx, drop_nth' hy, chooseR_c]
    unfold canAt at h
    rw [Bool.and_comm] at h
    rw [h]; rfl
  · cases h
theorem takeB_none {L : List Spt} {C : List Sg} {i k : Nat} {x : Spt} (hx : nth L i = some x) (h : takeB L C i k x = false) : chooseR (L.drop i) (C.drop k) = (x.signs.length : Int) :: chooseR (L.drop (i + 1)) (C.drop k) := by
  rw [drop_nth' hx]
  by_cases hk : k < C.length
  · obtain ⟨y, hy⟩ := nth_some hk
    unfold takeB at h
    rw [hy] at h
    rw [drop_nth' hy, chooseR_c]
    unfold canAt at h
    have h' : (canB (L.drop (i + 1)) (C.drop (k + 1)) && decide (y ∈ x.signs)) = false := by rw [Bool.and_comm]; exact h
    rw [h']; rfl
  · rw [show C.drop k = [] from List.drop_eq_nil_of_le (by omega), chooseR_n]
theorem chooseR_end {L : List Spt} {C : List Sg} {i k : Nat} (h : L.length ≤ i) : chooseR (L.drop i) (C.drop k) = [] := by
  rw [List.drop_eq_nil_of_le h]; unfold chooseR; rfl
theorem posL_at {D : List Sg} {s y : Sg} {j : Nat} (h : nth D j = some y) : posL (D.drop j) s j = (bif decide (y = s) then [(j : Int)] else []) ++ posL (D.drop (j + 1)) s (j + 1) := by
  rw [drop_nth' h, posL]
def firstF (L : List Spt) (C : List Sg) : List Int := bif canAt L C 0 0 then chooseR L C else []
theorem firstF_no {L : List Spt} {C : List Sg} (h : (!canAt L C 0 0) = true) {S : St} : (∃ w, tupV [.slice none 0 0, .bool false] = tupV [w, .bool (canAt L C 0 0)] ∧ Ints S w (firstF L C)) := by
  have h' : canAt L C 0 0 = false := by simpa using h
  unfold firstF; rw [h']; exact ⟨_, rfl, ints_nil S⟩
theorem firstF_yes {L : List Spt} {C : List Sg} {O : List Int} (h : (!canAt L C 0 0) = false) (ho : O = chooseR L C) {S : St} {w : Value} (hw : Ints S w O) : (∃ w', tupV [w, .bool true] = tupV [w', .bool (canAt L C 0 0)] ∧ Ints S w' (firstF L C)) := by
  have h' : canAt L C 0 0 = true := by simpa using h
  unfold firstF; rw [h', ← ho]
  exact ⟨_, rfl, hw⟩
noncomputable def c26 : Code := Tryz.f26.body.getD .skip
theorem spec26 (n1 : ByteArray) (a1 a2 : Option Addr) (cap1 cap2 : Nat) (L : List Spt) (C : List Sg) (hn : L.length ≤ 1000) (hm : C.length ≤ 1000) (hs : ∀ x, x ∈ L → x.signs.length ≤ 400) (hF : Fresh S) (hv : Spots S (.slice a1 L.length cap1) L) (hw : Signs S (.slice a2 C.length cap2) C) : CC Tryz.prog KK 26 [aggL [.string n1, .slice a1 L.length cap1], .slice a2 C.length cap2] S (fun v S' => Keep S S' ∧ (∃ w, v = tupV [w, .bool (canAt L C 0 0)] ∧ Ints S' w (firstF L C))) := by
  refine cc_enter (c := c26) (n := 174) Tryz.func26 rfl rfl rfl (by kernel_rfl) rfl rfl ?_
  have hl := Hold.start S
  refine xp_seq rfl ?_; refine xp_region rfl (by kernel_rfl) ?_; refine re_boxL hl rfl rfl rfl rfl rfl rfl ?_; intro B2 S2 hl; iterate 2 refine re_rd rfl rfl rfl rfl (rd_assign rfl rfl) ?_
  refine re_end rfl ?_; refine xp_seq rfl ?_; refine xp_region rfl (by kernel_rfl) ?_; refine re_rd rfl rfl rfl rfl (rd_fieldAddr rfl rfl (fieldAddr_at Tryz.underlying24 rfl (by kernel_rfl))) ?_; refine re_rd rfl rfl rfl rfl (rd_load rfl rfl (load1_of (by kernel_rfl) (hl.get 0 rfl) rfl)) ?_; refine re_rd rfl rfl rfl rfl (rd_len rfl rfl (len_slice Tryz.underlying22)) ?_; refine re_rd rfl rfl rfl rfl (rd_assign rfl rfl) ?_; refine re_end rfl ?_; refine xp_seq rfl ?_; refine xp_region rfl (by kernel_rfl) ?_; refine re_rd rfl rfl rfl rfl (rd_move rfl rfl) ?_
  refine re_rd rfl rfl rfl rfl (rd_bin rfl rfl rfl (congrArg some (congrArg (Value.int .i64) (IntWalk.i64_in _ (by omega))))) ?_; refine re_makeSliceK hl (m := L.length + 1) rfl rfl rfl rfl rfl rfl rfl rfl rfl Tryz.underlying96 (z := .slice none 0 0) (by kernel_rfl) (by kernel_rfl) (by unfold maxNeed; omega) ?_; intro B20 S1 hl; refine re_rd rfl rfl rfl rfl (rd_assign rfl rfl) ?_; refine re_end rfl ?_; iterate 2 refine xp_seq rfl ?_
  refine xp_region rfl (by kernel_rfl) ?_; refine re_rd rfl rfl rfl rfl (rd_move rfl rfl) ?_; refine re_rd rfl rfl rfl rfl (rd_assign rfl rfl) ?_; refine re_end rfl ?_; refine xp_block rfl ?_
  -- LOOP
  refine xe_sub (L' := [(8, .int .i64 (((L.length + 1 : Nat) : Int) - 1)), (7, .slice (some ⟨B20, 0, none⟩) (L.length + 1) (L.length + 1)), (6, .int .i64 L.length), (2, ptrTo B2 0), (1, .slice a2 C.length cap2)]) ⟨congrArg some (congrArg (Value.int .i64) (show (L.length : Int) = (((L.length + 1 : Nat) : Int) - 1) by omega)), rfl, rfl, rfl, rfl, trivial⟩ ?_
  refine xp_loop rfl (fun m Le S' => ∃ (p : Nat) (bs : List Nat), p ≤ L.length + 1 ∧ m = p ∧ p + bs.length = L.length + 1 ∧ SubE [(8, .int .i64 ((p : Int) - 1)), (7, .slice (some ⟨B20, 0, none⟩) (L.length + 1) (L.length + 1)), (6, .int .i64 L.length), (2, ptrTo B2 0), (1, .slice a2 C.length cap2)] Le ∧ HoldG S [S] S' ((B20, .cells (canV C (p) (bs)) 97 true true []) :: (B2, .cells [.string n1, .slice a1 L.length cap1] 24 false true []) :: rowsL L C p bs) []) ?_ (m := L.length + 1) ⟨L.length + 1, [], Nat.le_refl _, rfl, rfl, ⟨rfl, rfl, rfl, rfl, rfl, trivial⟩, (show canV C (L.length + 1) [] = _ by unfold canV; rw [List.map_nil, List.append_nil]) ▸ hl⟩
  clear hl; rintro p Le S' ⟨_, bs, hp, rfl, hbs, hsub, hl⟩; refine xe_sub hsub ?_
  iterate 2 refine xp_seq rfl ?_
  refine xp_region rfl (by kernel_rfl) ?_; refine re_rd rfl rfl rfl rfl (rd_move rfl rfl) ?_; refine re_rd rfl rfl rfl rfl (rd_bin rfl rfl rfl  rfl) ?_; refine re_end rfl ?_; refine xp_cond rfl rfl (fun h23 => ?_) (fun h23 => ?_)
  ·
    obtain ⟨i, rfl⟩ : ∃ i, p = i + 1 := ⟨p - 1, by have := of_decide_eq_true h23; omega⟩
    have hi : i ≤ L.length := by omega
    refine xe_sub (L' := [(8, .int .i64 (i : Int)), (7, .slice (some ⟨B20, 0, none⟩) (L.length + 1) (L.length + 1)), (6, .int .i64 L.length), (2, ptrTo B2 0), (1, .slice a2 C.length cap2)]) ⟨congrArg some (congrArg (Value.int .i64) (show (((i + 1 : Nat) : Int) - 1) = (i : Int) by omega)), rfl, rfl, rfl, rfl, trivial⟩ ?_; refine xp_skip rfl ?_; refine xp_seq rfl ?_; refine xp_block rfl ?_; refine xp_seq rfl ?_; refine xp_region rfl (by kernel_rfl) ?_; iterate 3 refine re_rd rfl rfl rfl rfl (rd_move rfl rfl) ?_
    refine re_rd rfl rfl rfl rfl (rd_len rfl rfl (len_slice Tryz.underlying25)) ?_; refine re_rd rfl rfl rfl rfl (rd_bin rfl rfl rfl (congrArg some (congrArg (Value.int .i64) (IntWalk.i64_in _ (by omega))))) ?_; refine re_makeSliceK hl (m := C.length + 1) rfl rfl rfl rfl rfl rfl rfl rfl rfl Tryz.underlying97 (z := .bool false) (by kernel_rfl) (by kernel_rfl) (by unfold maxNeed; omega) ?_; intro B31 S1 hl; refine re_rd rfl rfl rfl rfl (rd_indexAddr rfl rfl rfl (indexAddr_slice (z := 1) Tryz.underlying96 (by kernel_rfl) ⟨by omega, by omega⟩)) ?_
    refine re_storeR hl 1 rfl rfl rfl rfl rfl rfl rfl (by kernel_rfl) (canV_set C i B31 bs) ?_; intro S1 hl; refine re_end rfl ?_; refine xp_seq rfl ?_; refine xp_region rfl (by kernel_rfl) ?_; refine re_rd rfl rfl rfl rfl (rd_assign rfl rfl) ?_; refine re_end rfl ?_; refine xp_block rfl ?_
    -- LOOP
    refine xe_sub (L' := [(9, .int .i64 0), (8, .int .i64 (i : Int)), (7, .slice (some ⟨B20, 0, none⟩) (L.length + 1) (L.length + 1)), (6, .int .i64 L.length), (2, ptrTo B2 0), (1, .slice a2 C.length cap2)]) ⟨rfl, rfl, rfl, rfl, rfl, rfl, trivial⟩ ?_
    have hl : HoldG S [S] _ ((B31, .cells (rowP L C i (0)) 4 true true []) :: (B20, .cells (canV C (i) (B31 :: bs)) 97 true true []) :: (B2, .cells [.string n1, .slice a1 L.length cap1] 24 false true []) :: rowsL L C (i + 1) bs) [] := rowP_0 L C i ▸ hl
    refine xp_loop rfl (fun m Le S' => ∃ k : Nat, k ≤ C.length + 1 ∧ m = C.length + 1 - k ∧ SubE [(9, .int .i64 (k : Int)), (8, .int .i64 (i : Int)), (7, .slice (some ⟨B20, 0, none⟩) (L.length + 1) (L.length + 1)), (6, .int .i64 L.length), (2, ptrTo B2 0), (1, .slice a2 C.length cap2)] Le ∧ HoldG S [S] S' ((B31, .cells (rowP L C i (k)) 4 true true []) :: (B20, .cells (canV C (i) (B31 :: bs)) 97 true true []) :: (B2, .cells [.string n1, .slice a1 L.length cap1] 24 false true []) :: rowsL L C (i + 1) bs) []) ?_ (m := C.length + 1) ⟨0, by omega, rfl, ⟨rfl, rfl, rfl, rfl, rfl, rfl, trivial⟩, hl⟩
    clear hl; rintro m Le S' ⟨k, hk, rfl, hsub2, hl⟩; refine xe_sub hsub2 ?_
    iterate 2 refine xp_seq rfl ?_
    refine xp_region rfl (by kernel_rfl) ?_; iterate 2 refine re_rd rfl rfl rfl rfl (rd_move rfl rfl) ?_
    refine re_rd rfl rfl rfl rfl (rd_len rfl rfl (len_slice Tryz.underlying25)) ?_; refine re_rd rfl rfl rfl rfl (rd_bin rfl rfl rfl  rfl) ?_; refine re_end rfl ?_; refine xp_cond rfl rfl (fun h36 => ?_) (fun h36 => ?_)
    ·
      have hkm : k ≤ C.length := by have := of_decide_eq_true h36; omega
      refine xp_skip rfl ?_; refine xp_seq rfl (xe_to0 (fun S' => HoldG S [S] S' ((B31, .cells (rowP L C i (k + 1)) 4 true true []) :: (B20, .cells (canV C (i) (B31 :: bs)) 97 true true []) :: (B2, .cells [.string n1, .slice a1 L.length cap1] 24 false true []) :: rowsL L C (i + 1) bs) []) ?_ ?_)
      ·
        refine xp_block rfl ?_; iterate 2 refine xp_seq rfl ?_
        refine xp_region rfl (by kernel_rfl) ?_; iterate 2 refine re_rd rfl rfl rfl rfl (rd_move rfl rfl) ?_
        refine re_rd rfl rfl rfl rfl (rd_bin rfl rfl rfl  rfl) ?_; refine re_end rfl ?_; refine xp_cond rfl rfl (fun h41 => ?_) (fun h41 => ?_)
        ·
          refine xp_seq rfl ?_; refine xp_region rfl (by kernel_rfl) ?_; iterate 2 refine re_rd rfl rfl rfl rfl (rd_move rfl rfl) ?_
          refine re_rd rfl rfl rfl rfl (rd_indexAddr rfl rfl rfl (indexAddr_slice (z := 1) Tryz.underlying96 (by kernel_rfl) ⟨by omega, by omega⟩)) ?_; refine re_rd rfl rfl rfl rfl (rd_load rfl rfl (load1_of (by kernel_rfl) (hl.get 1 rfl) (canV_nth C i B31 bs))) ?_; iterate 3 refine re_rd rfl rfl rfl rfl (rd_move rfl rfl) ?_
          refine re_rd rfl rfl rfl rfl (rd_len rfl rfl (len_slice Tryz.underlying25)) ?_; refine re_rd rfl rfl rfl rfl (rd_bin rfl rfl rfl  rfl) ?_; refine re_rd rfl rfl rfl rfl (rd_indexAddr rfl rfl rfl (indexAddr_slice (z := 1) Tryz.underlying97 (by kernel_rfl) ⟨by omega, by omega⟩)) ?_; refine re_storeR hl 0 rfl rfl rfl rfl rfl rfl rfl (by kernel_rfl) (rowP_store (L := L) (C := C) (i := i) (k := k) (canAt_last_row h41 hkm) hkm) ?_; intro S1 hl; refine re_end rfl ?_; refine xp_exit rfl ?_
          exact ⟨rfl, by repeat (first | exact subL_refl _ | refine subL_skip rfl ?_), hl⟩
        ·
          refine xp_skip rfl ?_
          have hlt : i < L.length := by have h := (by simpa using h41 : ¬ ((i : Int) = (L.length : Int))); omega
          obtain ⟨x, hx⟩ := nth_some hlt
          obtain ⟨bx, ox, csx, ax, capx, hax, hrowx, htkx, hsgx⟩ := hv.elem hx
          have hxs : x.signs.length ≤ 1000 := Nat.le_trans (hs x (nth_mem hx)) (by omega)
          have hst := canAt_step (L := L) (C := C) hx hkm
          obtain ⟨b2, bs2, rfl⟩ : ∃ b2 bs2, bs = b2 :: bs2 := by
            cases bs with
            | nil => simp at hbs; omega
            | cons b2 bs2 => exact ⟨b2, bs2, rfl⟩
          refine xp_draw (idx := [0, 1, 2, 3, 4, 5, 6, 7, 8, 9, 10, 11, 12, 13, 14, 15, 16, 17, 18, 19, 20, 21, 22, 23, 24, 25, 26, 27, 28, 29, 30, 31, 32, 33, 34, 35, 36, 37, 38, 39, 40, 41, 42, 43, 44, 45, 46, 47, 48, 49, 50, 51, 52]) rfl (by kernel_rfl) (by kernel_rfl) ?_; iterate 2 refine rp_rd rfl rfl rfl rfl rfl (rd_move rfl rfl) ?_
          refine rp_rd rfl rfl rfl rfl rfl (rd_indexAddr rfl rfl rfl (indexAddr_slice (z := 1) Tryz.underlying96 (by kernel_rfl) ⟨by omega, by omega⟩)) ?_; refine rp_lk rfl rfl rfl rfl rfl (rd_load rfl rfl (load1_of (by kernel_rfl) (hl.get 1 rfl) (canV_nth C i B31 (b2 :: bs2)))) ?_; refine rp_rd rfl rfl rfl rfl rfl (rd_move rfl rfl) ?_; refine rp_rd rfl rfl rfl rfl rfl (rd_fieldAddr rfl rfl (fieldAddr_at Tryz.underlying24 rfl (by kernel_rfl))) ?_; refine rp_lk rfl rfl rfl rfl rfl (rd_load rfl rfl (load1_of (by kernel_rfl) (hl.get 2 rfl) rfl)) ?_; refine rp_rd rfl rfl rfl rfl rfl (rd_move rfl rfl) ?_
          refine rp_rd rfl rfl rfl rfl rfl (rd_indexAddr rfl rfl rfl (indexAddr_sl (z := 2) hax Tryz.underlying22 (by kernel_rfl) ⟨by omega, by omega⟩)) ?_; refine rp_rd rfl rfl rfl rfl rfl (rd_fieldAddr rfl rfl (fieldAddr_at Tryz.underlying43 rfl (by kernel_rfl))) ?_; refine rp_lk rfl rfl rfl rfl rfl (rd_load rfl rfl (load1_row (by kernel_rfl) (row_move (hl.since 0 rfl) hrowx) (tk_nth htkx rfl))) ?_; refine rp_rd rfl rfl rfl rfl rfl (rd_move rfl rfl) ?_; refine rp_bool (d := 63) rfl (fun h63 => ?_) (fun h63 => ?_)
          ·
            iterate 2 refine rp_rd rfl rfl rfl rfl rfl (rd_move rfl rfl) ?_
            refine rp_rd rfl rfl rfl rfl rfl (rd_bin rfl rfl rfl (congrArg some (congrArg (Value.int .i64) (IntWalk.i64_in _ (by omega))))) ?_; refine rp_rd rfl rfl rfl rfl rfl (rd_indexAddr rfl rfl rfl (indexAddr_slice (z := 1) Tryz.underlying96 (by kernel_rfl) ⟨by omega, by omega⟩)) ?_; refine rp_lk rfl rfl rfl rfl rfl (rd_load rfl rfl (load1_of (by kernel_rfl) (hl.get 1 rfl) (canV_nth1 C i B31 b2 bs2))) ?_; refine rp_rd rfl rfl rfl rfl rfl (rd_move rfl rfl) ?_; refine rp_rd rfl rfl rfl rfl rfl (rd_indexAddr rfl rfl rfl (indexAddr_slice (z := 1) Tryz.underlying97 (by kernel_rfl) ⟨by omega, by omega⟩)) ?_
            refine rp_lk rfl rfl rfl rfl rfl (rd_load rfl rfl (load1_of (by kernel_rfl) (hl.get 3 rfl) (rowV_nth hkm))) ?_; refine rp_rd rfl rfl rfl rfl rfl (rd_pick_t rfl rfl rfl) ?_; refine rp_rd rfl rfl rfl rfl rfl (rd_move rfl rfl) ?_; refine rp_bool (d := 73) rfl (fun h73 => ?_) (fun h73 => ?_)
            ·
              iterate 28 refine rp_pass rfl rfl rfl rfl ?_
              refine rp_rd rfl rfl rfl rfl rfl (rd_pick_t rfl rfl rfl) ?_; refine rp_rd rfl rfl rfl rfl rfl (rd_indexAddr rfl rfl rfl (indexAddr_slice (z := 1) Tryz.underlying97 (by kernel_rfl) ⟨by omega, by omega⟩)) ?_
              refine rp_storeR hl 0 rfl rfl rfl rfl rfl rfl rfl (by kernel_rfl) (rowP_store (L := L) (C := C) (i := i) (k := k) (by have h73 : canAt L C (i + 1) k = true := h73; rw [hst, h63, h73]; rfl) hkm) ?_; intro S1 hl; refine ⟨stays_all (by kernel_rfl), ?_⟩
              refine rp_end rfl ?_
              exact ⟨rfl, by repeat (first | exact subL_refl _ | refine subL_skip rfl ?_), hl⟩
            ·
              iterate 2 refine rp_rd rfl rfl rfl rfl rfl (rd_move rfl rfl) ?_
              refine rp_lk rfl rfl rfl rfl rfl (rd_len rfl rfl (len_slice Tryz.underlying25)) ?_; refine rp_rd rfl rfl rfl rfl rfl (rd_bin rfl rfl rfl  rfl) ?_; refine rp_rd rfl rfl rfl rfl rfl (rd_move rfl rfl) ?_; refine rp_bool (d := 78) rfl (fun h78 => ?_) (fun h78 => ?_)
              ·
                have hlt2 : k < C.length := by have := of_decide_eq_true h78; omega
                obtain ⟨y, hy⟩ := nth_some hlt2
                obtain ⟨b5, o5, cs5, ha5, _, hrow5, htk5⟩ := hw.elem hy
                refine rp_rd rfl rfl rfl rfl rfl (rd_fieldAddr rfl rfl (fieldAddr_at Tryz.underlying24 rfl (by kernel_rfl))) ?_; refine rp_lk rfl rfl rfl rfl rfl (rd_load rfl rfl (load1_of (by kernel_rfl) (hl.get 2 rfl) rfl)) ?_; refine rp_rd rfl rfl rfl rfl rfl (rd_move rfl rfl) ?_; refine rp_rd rfl rfl rfl rfl rfl (rd_indexAddr rfl rfl rfl (indexAddr_sl (z := 2) hax Tryz.underlying22 (by kernel_rfl) ⟨by omega, by omega⟩)) ?_; refine rp_rd rfl rfl rfl rfl rfl (rd_fieldAddr rfl rfl (fieldAddr_at Tryz.underlying43 rfl (by kernel_rfl))) ?_
                refine rp_lk rfl rfl rfl rfl rfl (rd_load rfl rfl (load1_row (by kernel_rfl) (row_move (hl.since 0 rfl) hrowx) (tk_nth htkx rfl))) ?_; iterate 2 refine rp_rd rfl rfl rfl rfl rfl (rd_move rfl rfl) ?_
                refine rp_rd rfl rfl rfl rfl rfl (rd_indexAddr rfl rfl rfl (indexAddr_sl (z := 17) ha5 Tryz.underlying25 (by kernel_rfl) ⟨by omega, by omega⟩)) ?_; refine rp_lk rfl rfl rfl rfl rfl (rd_load rfl rfl (loadN_row (z := 17) (by kernel_rfl) (by kernel_rfl) (row_move (hl.since 0 rfl) hrow5) htk5)) ?_
                refine rp_callL hl rfl rfl rfl rfl rfl rfl rfl (spec47 ax capx x.signs y hxs (hsgx.move (hl.since 0 rfl))) ?_; rintro v S1 hk1 rfl hl; refine ⟨⟨stays_no (by kernel_rfl), stays_no (by kernel_rfl), stays_no (by kernel_rfl), stays_no (by kernel_rfl), stays_no (by kernel_rfl), stays_no (by kernel_rfl), stays_no (by kernel_rfl), stays_no (by kernel_rfl), stays_load rfl rfl (load1_of (by kernel_rfl) (hl.get 1 rfl) (canV_nth C i B31 (b2 :: bs2))) (same_atom (atom_slice _ _ _)) rfl, trivial⟩, ?_⟩
                refine rp_rd rfl rfl rfl rfl rfl (rd_pick_t rfl rfl rfl) ?_; refine rp_rd rfl rfl rfl rfl rfl (rd_move rfl rfl) ?_; refine rp_bool (d := 91) rfl (fun h91 => ?_) (fun h91 => ?_)
                ·
                  iterate 2 refine rp_rd rfl rfl rfl rfl rfl (rd_move rfl rfl) ?_
                  refine rp_rd rfl rfl rfl rfl rfl (rd_bin rfl rfl rfl (congrArg some (congrArg (Value.int .i64) (IntWalk.i64_in _ (by omega))))) ?_; refine rp_rd rfl rfl rfl rfl rfl (rd_indexAddr rfl rfl rfl (indexAddr_slice (z := 1) Tryz.underlying96 (by kernel_rfl) ⟨by omega, by omega⟩)) ?_; refine rp_lk rfl rfl rfl rfl rfl (rd_load rfl rfl (load1_of (by kernel_rfl) (hl.get 1 rfl) (canV_nth1 C i B31 b2 bs2))) ?_; refine rp_rd rfl rfl rfl rfl rfl (rd_move rfl rfl) ?_; refine rp_rd rfl rfl rfl rfl rfl (rd_bin rfl rfl rfl (congrArg some (congrArg (Value.int .i64) (IntWalk.i64_in _ (by omega))))) ?_
                  refine rp_rd rfl rfl rfl rfl rfl (rd_indexAddr rfl rfl rfl (indexAddr_slice (z := 1) Tryz.underlying97 (by kernel_rfl) ⟨by omega, by omega⟩)) ?_; refine rp_lk rfl rfl rfl rfl rfl (rd_load rfl rfl (load1_of (by kernel_rfl) (hl.get 3 rfl) (rowV_nth (show k + 1 ≤ C.length by omega)))) ?_; refine rp_rd rfl rfl rfl rfl rfl (rd_pick_t rfl rfl rfl) ?_; refine rp_rd rfl rfl rfl rfl rfl (rd_pick_f rfl rfl rfl) ?_; refine rp_rd rfl rfl rfl rfl rfl (rd_indexAddr rfl rfl rfl (indexAddr_slice (z := 1) Tryz.underlying97 (by kernel_rfl) ⟨by omega, by omega⟩)) ?_
                  refine rp_storeR hl 0 rfl rfl rfl rfl rfl rfl rfl (by kernel_rfl) (rowP_store (L := L) (C := C) (i := i) (k := k) (by have h73 : canAt L C (i + 1) k = false := h73; rw [hst, h63, h73]; unfold secB; rw [hy]; simp only [h91, Bool.and_true, Bool.and_false, Bool.false_or] <;> rfl) hkm) ?_; intro S1 hl; refine ⟨stays_all (by kernel_rfl), ?_⟩
                  refine rp_end rfl ?_
                  exact ⟨rfl, by repeat (first | exact subL_refl _ | refine subL_skip rfl ?_), hl⟩
                ·
                  iterate 9 refine rp_pass rfl rfl rfl rfl ?_
                  iterate 2 refine rp_rd rfl rfl rfl rfl rfl (rd_pick_f rfl rfl rfl) ?_
                  refine rp_rd rfl rfl rfl rfl rfl (rd_indexAddr rfl rfl rfl (indexAddr_slice (z := 1) Tryz.underlying97 (by kernel_rfl) ⟨by omega, by omega⟩)) ?_
                  refine rp_storeR hl 0 rfl rfl rfl rfl rfl rfl rfl (by kernel_rfl) (rowP_store (L := L) (C := C) (i := i) (k := k) (by have h73 : canAt L C (i + 1) k = false := h73; rw [hst, h63, h73]; unfold secB; rw [hy]; simp only [h91, Bool.and_true, Bool.and_false, Bool.false_or] <;> rfl) hkm) ?_; intro S1 hl; refine ⟨stays_all (by kernel_rfl), ?_⟩
                  refine rp_end rfl ?_
                  exact ⟨rfl, by repeat (first | exact subL_refl _ | refine subL_skip rfl ?_), hl⟩
              ·
                iterate 11 refine rp_pass rfl rfl rfl rfl ?_
                refine rp_rd rfl rfl rfl rfl rfl (rd_pick_f rfl rfl rfl) ?_; refine rp_rd rfl rfl rfl rfl rfl (rd_move rfl rfl) ?_; iterate 9 refine rp_pass rfl rfl rfl rfl ?_
                iterate 2 refine rp_rd rfl rfl rfl rfl rfl (rd_pick_f rfl rfl rfl) ?_
                refine rp_rd rfl rfl rfl rfl rfl (rd_indexAddr rfl rfl rfl (indexAddr_slice (z := 1) Tryz.underlying97 (by kernel_rfl) ⟨by omega, by omega⟩)) ?_
                refine rp_storeR hl 0 rfl rfl rfl rfl rfl rfl rfl (by kernel_rfl) (rowP_store (L := L) (C := C) (i := i) (k := k) (by have h73 : canAt L C (i + 1) k = false := h73; rw [hst, h63, h73]; unfold secB; rw [nth_none (by have := of_decide_eq_false h78; omega)]; rfl) hkm) ?_; intro S1 hl; refine ⟨stays_all (by kernel_rfl), ?_⟩
                refine rp_end rfl ?_
                exact ⟨rfl, by repeat (first | exact subL_refl _ | refine subL_skip rfl ?_), hl⟩
          ·
            iterate 8 refine rp_pass rfl rfl rfl rfl ?_
            refine rp_rd rfl rfl rfl rfl rfl (rd_pick_f rfl rfl rfl) ?_; iterate 3 refine rp_rd rfl rfl rfl rfl rfl (rd_move rfl rfl) ?_
            refine rp_lk rfl rfl rfl rfl rfl (rd_len rfl rfl (len_slice Tryz.underlying25)) ?_; refine rp_rd rfl rfl rfl rfl rfl (rd_bin rfl rfl rfl  rfl) ?_; refine rp_rd rfl rfl rfl rfl rfl (rd_move rfl rfl) ?_; refine rp_bool (d := 78) rfl (fun h78 => ?_) (fun h78 => ?_)
            ·
              have hlt2 : k < C.length := by have := of_decide_eq_true h78; omega
              obtain ⟨y, hy⟩ := nth_some hlt2
              obtain ⟨b5, o5, cs5, ha5, _, hrow5, htk5⟩ := hw.elem hy
              refine rp_rd rfl rfl rfl rfl rfl (rd_fieldAddr rfl rfl (fieldAddr_at Tryz.underlying24 rfl (by kernel_rfl))) ?_; refine rp_lk rfl rfl rfl rfl rfl (rd_load rfl rfl (load1_of (by kernel_rfl) (hl.get 2 rfl) rfl)) ?_; refine rp_rd rfl rfl rfl rfl rfl (rd_move rfl rfl) ?_; refine rp_rd rfl rfl rfl rfl rfl (rd_indexAddr rfl rfl rfl (indexAddr_sl (z := 2) hax Tryz.underlying22 (by kernel_rfl) ⟨by omega, by omega⟩)) ?_; refine rp_rd rfl rfl rfl rfl rfl (rd_fieldAddr rfl rfl (fieldAddr_at Tryz.underlying43 rfl (by kernel_rfl))) ?_
              refine rp_lk rfl rfl rfl rfl rfl (rd_load rfl rfl (load1_row (by kernel_rfl) (row_move (hl.since 0 rfl) hrowx) (tk_nth htkx rfl))) ?_; iterate 2 refine rp_rd rfl rfl rfl rfl rfl (rd_move rfl rfl) ?_
              refine rp_rd rfl rfl rfl rfl rfl (rd_indexAddr rfl rfl rfl (indexAddr_sl (z := 17) ha5 Tryz.underlying25 (by kernel_rfl) ⟨by omega, by omega⟩)) ?_; refine rp_lk rfl rfl rfl rfl rfl (rd_load rfl rfl (loadN_row (z := 17) (by kernel_rfl) (by kernel_rfl) (row_move (hl.since 0 rfl) hrow5) htk5)) ?_
              refine rp_callL hl rfl rfl rfl rfl rfl rfl rfl (spec47 ax capx x.signs y hxs (hsgx.move (hl.since 0 rfl))) ?_; rintro v S1 hk1 rfl hl; refine ⟨⟨stays_no (by kernel_rfl), stays_no (by kernel_rfl), stays_no (by kernel_rfl), stays_no (by kernel_rfl), stays_no (by kernel_rfl), stays_no (by kernel_rfl), stays_load rfl rfl (load1_of (by kernel_rfl) (hl.get 1 rfl) (canV_nth C i B31 (b2 :: bs2))) (same_atom (atom_slice _ _ _)) rfl, trivial⟩, ?_⟩
              refine rp_rd rfl rfl rfl rfl rfl (rd_pick_t rfl rfl rfl) ?_; refine rp_rd rfl rfl rfl rfl rfl (rd_move rfl rfl) ?_; refine rp_bool (d := 91) rfl (fun h91 => ?_) (fun h91 => ?_)
              ·
                iterate 2 refine rp_rd rfl rfl rfl rfl rfl (rd_move rfl rfl) ?_
                refine rp_rd rfl rfl rfl rfl rfl (rd_bin rfl rfl rfl (congrArg some (congrArg (Value.int .i64) (IntWalk.i64_in _ (by omega))))) ?_; refine rp_rd rfl rfl rfl rfl rfl (rd_indexAddr rfl rfl rfl (indexAddr_slice (z := 1) Tryz.underlying96 (by kernel_rfl) ⟨by omega, by omega⟩)) ?_; refine rp_lk rfl rfl rfl rfl rfl (rd_load rfl rfl (load1_of (by kernel_rfl) (hl.get 1 rfl) (canV_nth1 C i B31 b2 bs2))) ?_; refine rp_rd rfl rfl rfl rfl rfl (rd_move rfl rfl) ?_; refine rp_rd rfl rfl rfl rfl rfl (rd_bin rfl rfl rfl (congrArg some (congrArg (Value.int .i64) (IntWalk.i64_in _ (by omega))))) ?_
                refine rp_rd rfl rfl rfl rfl rfl (rd_indexAddr rfl rfl rfl (indexAddr_slice (z := 1) Tryz.underlying97 (by kernel_rfl) ⟨by omega, by omega⟩)) ?_; refine rp_lk rfl rfl rfl rfl rfl (rd_load rfl rfl (load1_of (by kernel_rfl) (hl.get 3 rfl) (rowV_nth (show k + 1 ≤ C.length by omega)))) ?_; refine rp_rd rfl rfl rfl rfl rfl (rd_pick_t rfl rfl rfl) ?_; refine rp_rd rfl rfl rfl rfl rfl (rd_pick_f rfl rfl rfl) ?_; refine rp_rd rfl rfl rfl rfl rfl (rd_indexAddr rfl rfl rfl (indexAddr_slice (z := 1) Tryz.underlying97 (by kernel_rfl) ⟨by omega, by omega⟩)) ?_
                refine rp_storeR hl 0 rfl rfl rfl rfl rfl rfl rfl (by kernel_rfl) (rowP_store (L := L) (C := C) (i := i) (k := k) (by rw [hst, h63]; unfold secB; rw [hy]; simp only [h91, Bool.and_true, Bool.and_false, Bool.false_and, Bool.false_or] <;> rfl) hkm) ?_; intro S1 hl; refine ⟨stays_all (by kernel_rfl), ?_⟩
                refine rp_end rfl ?_
                exact ⟨rfl, by repeat (first | exact subL_refl _ | refine subL_skip rfl ?_), hl⟩
              ·
                iterate 9 refine rp_pass rfl rfl rfl rfl ?_
                iterate 2 refine rp_rd rfl rfl rfl rfl rfl (rd_pick_f rfl rfl rfl) ?_
                refine rp_rd rfl rfl rfl rfl rfl (rd_indexAddr rfl rfl rfl (indexAddr_slice (z := 1) Tryz.underlying97 (by kernel_rfl) ⟨by omega, by omega⟩)) ?_
                refine rp_storeR hl 0 rfl rfl rfl rfl rfl rfl rfl (by kernel_rfl) (rowP_store (L := L) (C := C) (i := i) (k := k) (by rw [hst, h63]; unfold secB; rw [hy]; simp only [h91, Bool.and_true, Bool.and_false, Bool.false_and, Bool.false_or] <;> rfl) hkm) ?_; intro S1 hl; refine ⟨stays_all (by kernel_rfl), ?_⟩
                refine rp_end rfl ?_
                exact ⟨rfl, by repeat (first | exact subL_refl _ | refine subL_skip rfl ?_), hl⟩
            ·
              iterate 11 refine rp_pass rfl rfl rfl rfl ?_
              refine rp_rd rfl rfl rfl rfl rfl (rd_pick_f rfl rfl rfl) ?_; refine rp_rd rfl rfl rfl rfl rfl (rd_move rfl rfl) ?_; iterate 9 refine rp_pass rfl rfl rfl rfl ?_
              iterate 2 refine rp_rd rfl rfl rfl rfl rfl (rd_pick_f rfl rfl rfl) ?_
              refine rp_rd rfl rfl rfl rfl rfl (rd_indexAddr rfl rfl rfl (indexAddr_slice (z := 1) Tryz.underlying97 (by kernel_rfl) ⟨by omega, by omega⟩)) ?_
              refine rp_storeR hl 0 rfl rfl rfl rfl rfl rfl rfl (by kernel_rfl) (rowP_store (L := L) (C := C) (i := i) (k := k) (by rw [hst, h63]; unfold secB; rw [nth_none (by have := of_decide_eq_false h78; omega)]; rfl) hkm) ?_; intro S1 hl; refine ⟨stays_all (by kernel_rfl), ?_⟩
              refine rp_end rfl ?_
              exact ⟨rfl, by repeat (first | exact subL_refl _ | refine subL_skip rfl ?_), hl⟩
      intro S1 hl
      refine xp_region rfl (by kernel_rfl) ?_; refine re_rd rfl rfl rfl rfl (rd_move rfl rfl) ?_; refine re_rd rfl rfl rfl rfl (rd_bin rfl rfl rfl (congrArg some (congrArg (Value.int .i64) (IntWalk.i64_in _ (by omega))))) ?_; refine re_rd rfl rfl rfl rfl (rd_assign rfl rfl) ?_; refine re_end rfl ?_
      exact ⟨C.length + 1 - (k + 1), by omega, k + 1, by omega, rfl, ⟨rfl, rfl, rfl, rfl, rfl, rfl, trivial⟩, hl⟩
    ·
      refine xp_exit rfl ?_; refine xp_region rfl (by kernel_rfl) ?_; refine re_rd rfl rfl rfl rfl (rd_move rfl rfl) ?_; refine re_rd rfl rfl rfl rfl (rd_bin rfl rfl rfl (congrArg some (congrArg (Value.int .i64) (IntWalk.i64_in _ (by omega))))) ?_; refine re_rd rfl rfl rfl rfl (rd_assign rfl rfl) ?_; refine re_end rfl ?_
      obtain rfl : k = C.length + 1 := by have := of_decide_eq_false h36; omega
      rw [rowP_all] at hl
      exact ⟨i, by omega, i, B31 :: bs, by omega, rfl, by rw [List.length_cons]; omega, ⟨rfl, rfl, rfl, rfl, rfl, trivial⟩, hl.perm (List.perm_middle (l₁ := [_, _])).symm⟩
  ·
    obtain rfl : p = 0 := by have := of_decide_eq_false h23; omega
    obtain ⟨b0, bs0, rfl⟩ : ∃ b0 bs0, bs = b0 :: bs0 := by
      cases bs with
      | nil => simp at hbs
      | cons b0 bs0 => exact ⟨b0, bs0, rfl⟩
    refine xp_exit rfl ?_; iterate 2 refine xp_seq rfl ?_
    refine xp_region rfl (by kernel_rfl) ?_; refine re_rd rfl rfl rfl rfl (rd_move rfl rfl) ?_; refine re_rd rfl rfl rfl rfl (rd_indexAddr rfl rfl rfl (indexAddr_slice (z := 1) Tryz.underlying96 (by kernel_rfl) ⟨by omega, by omega⟩)) ?_; refine re_rd rfl rfl rfl rfl (rd_load rfl rfl (load1_of (by kernel_rfl) (hl.get 0 rfl) (canV_nth C 0 b0 bs0))) ?_; refine re_rd rfl rfl rfl rfl (rd_indexAddr rfl rfl rfl (indexAddr_slice (z := 1) Tryz.underlying97 (by kernel_rfl) ⟨by omega, by omega⟩)) ?_
    refine re_rd rfl rfl rfl rfl (rd_load rfl rfl (load1_of (by kernel_rfl) (hl.get 2 rfl) (rowV_nth (Nat.zero_le _)))) ?_; refine re_rd rfl rfl rfl rfl (rd_un rfl rfl rfl) ?_; refine re_end rfl ?_; refine xp_cond rfl rfl (fun h109 => ?_) (fun h109 => ?_)
    ·
      refine xp_seq rfl ?_; refine xp_region rfl (by kernel_rfl) ?_; iterate 2 refine re_rd rfl rfl rfl rfl (rd_assign rfl rfl) ?_
      refine re_end rfl ?_; refine xp_ret rfl ?_
      refine thn_ret (done_ret (ress_tmp rfl (ress_tmp rfl rfl)) ⟨hl.keep, firstF_no h109⟩)
    ·
      have hcan : RowAt S' B20 97 (canV C 0 (b0 :: bs0)) := ⟨(hl.at_ _ _ (List.mem_cons_self ..)).2.2, _, _, hl.get 0 rfl⟩
      have hrows : ∀ a, a ≤ L.length → ∃ b, nth (canV C 0 (b0 :: bs0)) (0 + a * 1) = some (slB C b) ∧ RowAt S' b 4 (rowV L C a) := fun a ha => by
        obtain ⟨b, hb⟩ := nth_some (l := (b0 :: bs0)) (i := a) (by omega)
        have hmem := rowsL_mem (L := L) (C := C) (p := 0) hb
        rw [Nat.zero_add] at hmem
        have hat := hl.at_ _ _ (List.mem_cons_of_mem _ (List.mem_cons_of_mem _ hmem))
        refine ⟨b, ?_, hat.2.2, _, _, hat.1⟩
        rw [show 0 + a * 1 = a by omega]
        exact nth_map (slB C) hb
      have hl := (HoldG.shrink hl (l' := [(B2, .cells [.string n1, .slice a1 L.length cap1] 24 false true [])]) (Us := [S]) (gs' := []) (List.Sublist.cons _ (List.Sublist.cons_cons _ (List.nil_sublist _))) (fun g hg => hg) (fun T hT => hT)).mark
      refine xp_skip rfl ?_; refine xp_seq rfl ?_; refine xp_region rfl (by kernel_rfl) ?_; refine re_rd rfl rfl rfl rfl (rd_assign rfl rfl) ?_; refine re_end rfl ?_; refine xp_seq rfl ?_; refine xp_region rfl (by kernel_rfl) ?_; refine re_rd rfl rfl rfl rfl (rd_assign rfl rfl) ?_; refine re_end rfl ?_; iterate 2 refine xp_seq rfl ?_
      refine xp_region rfl (by kernel_rfl) ?_; refine re_rd rfl rfl rfl rfl (rd_assign rfl rfl) ?_; refine re_end rfl ?_; refine xp_block rfl ?_
      -- LOOP
      refine xe_sub (L' := [(12, .int .i64 0), (11, .int .i64 0), (10, .slice none 0 0), (7, .slice (some ⟨B20, 0, none⟩) (L.length + 1) (L.length + 1)), (6, .int .i64 L.length), (2, ptrTo B2 0), (1, .slice a2 C.length cap2)]) ⟨rfl, rfl, rfl, rfl, rfl, rfl, rfl, trivial⟩ ?_
      have hl := hl.addG (g := ⟨.slice none ([] : List Int).length ([] : List Int).length, 3, 1, (([] : List Int)).map iv, ([] : List Int).length⟩) (.inl ⟨rfl, rfl, rfl⟩)
      generalize hT : S' = T at *
      refine xp_loop rfl (fun m Le S' => ∃ (i k : Nat) (O : List Int) (av : Option Addr), i ≤ L.length ∧ m = L.length - i ∧ k ≤ C.length ∧ SubE [(12, .int .i64 (i : Int)), (11, .int .i64 (k : Int)), (10, .slice av O.length O.length), (7, .slice (some ⟨B20, 0, none⟩) (L.length + 1) (L.length + 1)), (6, .int .i64 L.length), (2, ptrTo B2 0), (1, .slice a2 C.length cap2)] Le ∧ O ++ chooseR (L.drop i) (C.drop k) = chooseR L C ∧ O.length ≤ i * 401 ∧ HoldG S [T, S] S' [(B2, .cells [.string n1, .slice a1 L.length cap1] 24 false true [])] [⟨.slice av O.length O.length, 3, 1, (O).map iv, O.length⟩]) ?_ (m := L.length) ⟨0, 0, [], none, by omega, rfl, by omega, ⟨rfl, rfl, rfl, rfl, rfl, rfl, rfl, trivial⟩, rfl, by simp, hl⟩
      clear hl; rintro m Le S' ⟨i, k, O, av, hi, rfl, hk, hsub3, hpr, hOi, hl⟩; refine xe_sub hsub3 ?_
      iterate 2 refine xp_seq rfl ?_
      refine xp_region rfl (by kernel_rfl) ?_; iterate 2 refine re_rd rfl rfl rfl rfl (rd_move rfl rfl) ?_
      refine re_rd rfl rfl rfl rfl (rd_bin rfl rfl rfl  rfl) ?_; refine re_end rfl ?_; refine xp_cond rfl rfl (fun h112 => ?_) (fun h112 => ?_)
      ·
        have hlt : i < L.length := by have := of_decide_eq_true h112; omega
        obtain ⟨x, hx⟩ := nth_some hlt
        obtain ⟨bx, ox, csx, ax, capx, hax, hrowx, htkx, hsgx⟩ := hv.elem hx
        have hxs0 := hs x (nth_mem hx)
        have hxs : x.signs.length ≤ 1000 := by omega
        refine xp_skip rfl ?_; refine xp_seq rfl ?_; refine xp_block rfl ?_; refine xp_seq rfl ?_; refine xp_region rfl (by kernel_rfl) ?_; refine re_rd rfl rfl rfl rfl (rd_fieldAddr rfl rfl (fieldAddr_at Tryz.underlying24 rfl (by kernel_rfl))) ?_; refine re_rd rfl rfl rfl rfl (rd_load rfl rfl (load1_of (by kernel_rfl) (hl.get 0 rfl) rfl)) ?_; refine re_rd rfl rfl rfl rfl (rd_move rfl rfl) ?_; refine re_rd rfl rfl rfl rfl (rd_indexAddr rfl rfl rfl (indexAddr_sl (z := 2) hax Tryz.underlying22 (by kernel_rfl) ⟨by omega, by omega⟩)) ?_
        refine re_rd rfl rfl rfl rfl (rd_load rfl rfl (loadN_row (z := 2) (by kernel_rfl) (by kernel_rfl) (row_move (hl.since 1 rfl) hrowx) htkx)) ?_; refine re_allocL hl rfl rfl rfl rfl rfl (z := [.slice none 0 0, .bool false]) (by kernel_rfl) ?_; intro B13 S13 hl; refine re_storeL hl 0 rfl rfl rfl rfl rfl rfl rfl (by kernel_rfl) rfl ?_; intro S1 hl; refine re_end rfl ?_; refine xp_seq rfl ?_; refine xp_seq rfl (xe_toE hl 143 (.bool (takeB L C i k x)) ?_ rfl ?_)
        ·
          refine xp_draw (idx := [0, 1, 2, 3, 4, 5, 6, 7, 8, 9, 10, 11, 12, 13, 14, 15, 16, 17, 18, 19, 20, 21, 22, 23]) rfl (by kernel_rfl) (by kernel_rfl) ?_; iterate 2 refine rp_rd rfl rfl rfl rfl rfl (rd_move rfl rfl) ?_
          refine rp_lk rfl rfl rfl rfl rfl (rd_len rfl rfl (len_slice Tryz.underlying25)) ?_; refine rp_rd rfl rfl rfl rfl rfl (rd_bin rfl rfl rfl  rfl) ?_; refine rp_rd rfl rfl rfl rfl rfl (rd_move rfl rfl) ?_; refine rp_bool (d := 124) rfl (fun h124 => ?_) (fun h124 => ?_)
          ·
            have hlt2 : k < C.length := by have := of_decide_eq_true h124; omega
            obtain ⟨y, hy⟩ := nth_some hlt2
            obtain ⟨b5, o5, cs5, ha5, _, hrow5, htk5⟩ := hw.elem hy
            obtain ⟨b6, hn6, hr6⟩ := hrows (i + 1) (by omega)
            refine rp_rd rfl rfl rfl rfl rfl (rd_fieldAddr rfl rfl (fieldAddr_at Tryz.underlying43 rfl (by kernel_rfl))) ?_; refine rp_lk rfl rfl rfl rfl rfl (rd_load rfl rfl (load1_of (by kernel_rfl) (hl.get 0 rfl) rfl)) ?_; iterate 2 refine rp_rd rfl rfl rfl rfl rfl (rd_move rfl rfl) ?_
            refine rp_rd rfl rfl rfl rfl rfl (rd_indexAddr rfl rfl rfl (indexAddr_sl (z := 17) ha5 Tryz.underlying25 (by kernel_rfl) ⟨by omega, by omega⟩)) ?_; refine rp_lk rfl rfl rfl rfl rfl (rd_load rfl rfl (loadN_row (z := 17) (by kernel_rfl) (by kernel_rfl) (row_move (hl.since 1 rfl) hrow5) htk5)) ?_
            refine rp_callL hl rfl rfl rfl rfl rfl rfl rfl (spec47 ax capx x.signs y hxs (hsgx.move (hl.since 1 rfl))) ?_; rintro v S1 hk1 rfl hl; refine ⟨stays_all (by kernel_rfl), ?_⟩
            refine rp_rd rfl rfl rfl rfl rfl (rd_pick_t rfl rfl rfl) ?_; refine rp_rd rfl rfl rfl rfl rfl (rd_move rfl rfl) ?_; refine rp_bool (d := 133) rfl (fun h133 => ?_) (fun h133 => ?_)
            ·
              iterate 2 refine rp_rd rfl rfl rfl rfl rfl (rd_move rfl rfl) ?_
              refine rp_rd rfl rfl rfl rfl rfl (rd_bin rfl rfl rfl (congrArg some (congrArg (Value.int .i64) (IntWalk.i64_in _ (by omega))))) ?_; refine rp_rd rfl rfl rfl rfl rfl (rd_indexAddr rfl rfl rfl (indexAddr_slice (z := 1) Tryz.underlying96 (by kernel_rfl) ⟨by omega, by omega⟩)) ?_; refine rp_lk rfl rfl rfl rfl rfl (rd_load rfl rfl (load1_row (by kernel_rfl) (row_move (hl.since 0 rfl) hcan) hn6)) ?_; refine rp_rd rfl rfl rfl rfl rfl (rd_move rfl rfl) ?_; refine rp_rd rfl rfl rfl rfl rfl (rd_bin rfl rfl rfl (congrArg some (congrArg (Value.int .i64) (IntWalk.i64_in _ (by omega))))) ?_
              refine rp_rd rfl rfl rfl rfl rfl (rd_indexAddr rfl rfl rfl (indexAddr_slice (z := 1) Tryz.underlying97 (by kernel_rfl) ⟨by omega, by omega⟩)) ?_; refine rp_lk rfl rfl rfl rfl rfl (rd_load rfl rfl (load1_row (by kernel_rfl) (row_move (hl.since 0 rfl) hr6) (rowV_nth (show k + 1 ≤ C.length by omega)))) ?_; refine rp_rd rfl rfl rfl rfl rfl (rd_pick_t rfl rfl rfl) ?_; refine rp_end rfl ?_
              exact ⟨rfl, bl (by unfold takeB; rw [hy]; simp only [h133, Bool.true_and] <;> rfl), by repeat (first | exact subL_refl _ | refine subL_skip rfl ?_), hl⟩
            ·
              iterate 9 refine rp_pass rfl rfl rfl rfl ?_
              refine rp_rd rfl rfl rfl rfl rfl (rd_pick_f rfl rfl rfl) ?_; refine rp_end rfl ?_
              exact ⟨rfl, bl (by unfold takeB; rw [hy]; simp only [h133, Bool.false_and]), by repeat (first | exact subL_refl _ | refine subL_skip rfl ?_), hl⟩
          ·
            iterate 7 refine rp_pass rfl rfl rfl rfl ?_
            refine rp_rd rfl rfl rfl rfl rfl (rd_pick_f rfl rfl rfl) ?_; refine rp_rd rfl rfl rfl rfl rfl (rd_move rfl rfl) ?_; iterate 9 refine rp_pass rfl rfl rfl rfl ?_
            refine rp_rd rfl rfl rfl rfl rfl (rd_pick_f rfl rfl rfl) ?_; refine rp_end rfl ?_
            exact ⟨rfl, bl (by unfold takeB; rw [nth_none (by have := of_decide_eq_false h124; omega)]), by repeat (first | exact subL_refl _ | refine subL_skip rfl ?_), hl⟩
        intro S1 hl
        refine xp_cond rfl rfl (fun h143 => ?_) (fun h143 => ?_)
        ·
          iterate 2 refine xp_seq rfl ?_
          refine xp_region rfl (by kernel_rfl) ?_; refine re_rd rfl rfl rfl rfl (rd_assign rfl rfl) ?_; refine re_end rfl ?_; refine xp_block rfl ?_
          -- LOOP
          obtain ⟨y, hy, hcy⟩ := takeB_some hx h143
          have hlt2 := nth_lt hy
          obtain ⟨b5, o5, cs5, ha5, _, hrow5, htk5⟩ := hw.elem hy
          refine xe_sub (L' := [(14, .int .i64 0), (13, ptrTo B13 0), (12, .int .i64 (i : Int)), (11, .int .i64 (k : Int)), (10, .slice av O.length O.length), (7, .slice (some ⟨B20, 0, none⟩) (L.length + 1) (L.length + 1)), (6, .int .i64 L.length), (2, ptrTo B2 0), (1, .slice a2 C.length cap2)]) ⟨rfl, rfl, rfl, rfl, rfl, rfl, rfl, rfl, rfl, trivial⟩ ?_
          refine xp_loop rfl (fun m Le S' => ∃ (j : Nat) (P : List Int) (av2 : Option Addr), j ≤ x.signs.length ∧ m = x.signs.length - j ∧ SubE [(14, .int .i64 (j : Int)), (13, ptrTo B13 0), (12, .int .i64 (i : Int)), (11, .int .i64 (k : Int)), (10, .slice av2 P.length P.length), (7, .slice (some ⟨B20, 0, none⟩) (L.length + 1) (L.length + 1)), (6, .int .i64 L.length), (2, ptrTo B2 0), (1, .slice a2 C.length cap2)] Le ∧ P ++ posL (x.signs.drop j) y j = O ++ posL x.signs y 0 ∧ P.length ≤ O.length + j ∧ HoldG S [T, S] S' [(B13, .cells [.slice ax x.signs.length capx, .bool x.blank] 43 false true []), (B2, .cells [.string n1, .slice a1 L.length cap1] 24 false true [])] [⟨.slice av2 P.length P.length, 3, 1, (P).map iv, P.length⟩]) ?_ (m := x.signs.length) ⟨0, O, av, by omega, rfl, ⟨rfl, rfl, rfl, rfl, rfl, rfl, rfl, rfl, rfl, trivial⟩, rfl, by omega, hl⟩
          clear hl; rintro m Le S' ⟨j, P, av2, hj, rfl, hsub4, hpp, hPl, hl⟩; refine xe_sub hsub4 ?_
          iterate 2 refine xp_seq rfl ?_
          refine xp_region rfl (by kernel_rfl) ?_; refine re_rd rfl rfl rfl rfl (rd_move rfl rfl) ?_; refine re_rd rfl rfl rfl rfl (rd_fieldAddr rfl rfl (fieldAddr_at Tryz.underlying43 rfl (by kernel_rfl))) ?_; refine re_rd rfl rfl rfl rfl (rd_load rfl rfl (load1_of (by kernel_rfl) (hl.get 0 rfl) rfl)) ?_; refine re_rd rfl rfl rfl rfl (rd_len rfl rfl (len_slice Tryz.underlying25)) ?_; refine re_rd rfl rfl rfl rfl (rd_bin rfl rfl rfl  rfl) ?_; refine re_end rfl ?_; refine xp_cond rfl rfl (fun h148 => ?_) (fun h148 => ?_)
          ·
            have hlt4 : j < x.signs.length := by have := of_decide_eq_true h148; omega
            obtain ⟨z, hz⟩ := nth_some hlt4
            obtain ⟨b7, o7, cs7, ha7, _, hrow7, htk7⟩ := hsgx.elem hz
            refine xp_skip rfl ?_; refine xp_seq rfl ?_; refine xp_block rfl ?_; refine xp_seq rfl ?_; refine xp_draw (idx := [0, 1, 2, 3, 4, 5, 6, 7, 8, 9]) rfl (by kernel_rfl) (by kernel_rfl) ?_; refine rp_rd rfl rfl rfl rfl rfl (rd_fieldAddr rfl rfl (fieldAddr_at Tryz.underlying43 rfl (by kernel_rfl))) ?_; refine rp_lk rfl rfl rfl rfl rfl (rd_load rfl rfl (load1_of (by kernel_rfl) (hl.get 0 rfl) rfl)) ?_; refine rp_rd rfl rfl rfl rfl rfl (rd_move rfl rfl) ?_; refine rp_rd rfl rfl rfl rfl rfl (rd_indexAddr rfl rfl rfl (indexAddr_sl (z := 17) ha7 Tryz.underlying25 (by kernel_rfl) ⟨by omega, by omega⟩)) ?_
            refine rp_lk rfl rfl rfl rfl rfl (rd_load rfl rfl (loadN_row (z := 17) (by kernel_rfl) (by kernel_rfl) (row_move (hl.since 1 rfl) hrow7) htk7)) ?_; iterate 2 refine rp_rd rfl rfl rfl rfl rfl (rd_move rfl rfl) ?_
            refine rp_rd rfl rfl rfl rfl rfl (rd_indexAddr rfl rfl rfl (indexAddr_sl (z := 17) ha5 Tryz.underlying25 (by kernel_rfl) ⟨by omega, by omega⟩)) ?_; refine rp_lk rfl rfl rfl rfl rfl (rd_load rfl rfl (loadN_row (z := 17) (by kernel_rfl) (by kernel_rfl) (row_move (hl.since 1 rfl) hrow5) htk5)) ?_; refine rp_rd rfl rfl rfl rfl rfl (rd_bin rfl rfl rfl (eqSign' _ _ z y)) ?_; refine rp_end rfl ?_; refine xp_cond rfl rfl (fun h160 => ?_) (fun h160 => ?_)
            ·
              refine xp_region rfl (by kernel_rfl) ?_; iterate 2 refine re_rd rfl rfl rfl rfl (rd_move rfl rfl) ?_
              refine re_buildSliceR hl rfl rfl rfl rfl rfl Tryz.underlying34 rfl (c := [iv (j : Int)]) (by kernel_rfl) ?_; intro B163 S1 hr163 hl; refine re_appendG hl 0 rfl rfl (by simp) rfl rfl rfl rfl rfl rfl rfl Tryz.underlying34 Tryz.underlying34 rfl rfl (by kernel_rfl) (src_row (new := [iv (j : Int)]) hr163 rfl) rfl rfl (by kernel_rfl) (by show P.length + 1 ≤ maxNeed; unfold maxNeed; omega) ?_; intro v164 S1 hl
              obtain ⟨av3, rfl⟩ : ∃ av3, v164 = .slice av3 (P.length + 1) (P.length + 1) := Grow.is (hl.gr _ (List.mem_cons_self ..))
              refine re_rd rfl rfl rfl rfl (rd_assign rfl rfl) ?_; refine re_end rfl ?_; refine xp_region rfl (by kernel_rfl) ?_; refine re_rd rfl rfl rfl rfl (rd_move rfl rfl) ?_; refine re_rd rfl rfl rfl rfl (rd_bin rfl rfl rfl (congrArg some (congrArg (Value.int .i64) (IntWalk.i64_in _ (by omega))))) ?_; refine re_rd rfl rfl rfl rfl (rd_assign rfl rfl) ?_; refine re_end rfl ?_
              refine ⟨x.signs.length - (j + 1), by omega, j + 1, P ++ [(j : Int)], av3, by omega, rfl, ⟨rfl, rfl, rfl, rfl, congrArg some (congrArg (fun n => Value.slice av3 n n) (by rw [List.length_append]; rfl)), rfl, rfl, rfl, rfl, trivial⟩, ?_, by rw [List.length_append]; exact Nat.succ_le_succ hPl, ?_⟩
              · rw [posL_at hz, h160] at hpp; rw [List.append_assoc]; exact hpp
              · rw [List.length_append, List.map_append]; exact hl
            ·
              refine xp_skip rfl ?_; refine xp_region rfl (by kernel_rfl) ?_; refine re_rd rfl rfl rfl rfl (rd_move rfl rfl) ?_; refine re_rd rfl rfl rfl rfl (rd_bin rfl rfl rfl (congrArg some (congrArg (Value.int .i64) (IntWalk.i64_in _ (by omega))))) ?_; refine re_rd rfl rfl rfl rfl (rd_assign rfl rfl) ?_; refine re_end rfl ?_
              refine ⟨x.signs.length - (j + 1), by omega, j + 1, P, av2, by omega, rfl, ⟨rfl, rfl, rfl, rfl, rfl, rfl, rfl, rfl, rfl, trivial⟩, ?_, by omega, hl⟩
              rw [posL_at hz, h160] at hpp; exact hpp
          ·
            refine xp_exit rfl ?_; refine xp_seq rfl ?_; refine xp_region rfl (by kernel_rfl) ?_; refine re_rd rfl rfl rfl rfl (rd_move rfl rfl) ?_; refine re_rd rfl rfl rfl rfl (rd_bin rfl rfl rfl (congrArg some (congrArg (Value.int .i64) (IntWalk.i64_in _ (by omega))))) ?_; refine re_rd rfl rfl rfl rfl (rd_assign rfl rfl) ?_; refine re_end rfl ?_; refine xp_exit rfl ?_; refine xp_region rfl (by kernel_rfl) ?_; refine re_rd rfl rfl rfl rfl (rd_move rfl rfl) ?_; refine re_rd rfl rfl rfl rfl (rd_bin rfl rfl rfl (congrArg some (congrArg (Value.int .i64) (IntWalk.i64_in _ (by omega))))) ?_
            refine re_rd rfl rfl rfl rfl (rd_assign rfl rfl) ?_; refine re_end rfl ?_
            have hj2 : j = x.signs.length := by have := of_decide_eq_false h148; omega
            have hP : P = O ++ posL x.signs y 0 := by rw [← hpp, hj2, List.drop_length]; unfold posL; rw [List.append_nil]
            refine ⟨L.length - (i + 1), by omega, i + 1, k + 1, P, av2, by omega, rfl, by omega, ⟨rfl, rfl, rfl, rfl, rfl, rfl, rfl, trivial⟩, ?_, by omega, hl.tail⟩
            rw [hP, List.append_assoc, ← hcy]; exact hpr
        ·
          refine xp_skip rfl ?_; refine xp_region rfl (by kernel_rfl) ?_; refine re_rd rfl rfl rfl rfl (rd_move rfl rfl) ?_; refine re_rd rfl rfl rfl rfl (rd_fieldAddr rfl rfl (fieldAddr_at Tryz.underlying43 rfl (by kernel_rfl))) ?_; refine re_rd rfl rfl rfl rfl (rd_load rfl rfl (load1_of (by kernel_rfl) (hl.get 0 rfl) rfl)) ?_; refine re_rd rfl rfl rfl rfl (rd_len rfl rfl (len_slice Tryz.underlying25)) ?_; refine re_buildSliceR hl rfl rfl rfl rfl rfl Tryz.underlying34 rfl (c := [iv (x.signs.length : Int)]) (by kernel_rfl) ?_; intro B171 S1 hr171 hl
          refine re_appendG hl 0 rfl rfl (by simp) rfl rfl rfl rfl rfl rfl rfl Tryz.underlying34 Tryz.underlying34 rfl rfl (by kernel_rfl) (src_row (new := [iv (x.signs.length : Int)]) hr171 rfl) rfl rfl (by kernel_rfl) (by show O.length + 1 ≤ maxNeed; unfold maxNeed; omega) ?_; intro v172 S1 hl
          obtain ⟨av3, rfl⟩ : ∃ av3, v172 = .slice av3 (O.length + 1) (O.length + 1) := Grow.is (hl.gr _ (List.mem_cons_self ..))
          refine re_rd rfl rfl rfl rfl (rd_assign rfl rfl) ?_; refine re_end rfl ?_; refine xp_region rfl (by kernel_rfl) ?_; refine re_rd rfl rfl rfl rfl (rd_move rfl rfl) ?_; refine re_rd rfl rfl rfl rfl (rd_bin rfl rfl rfl (congrArg some (congrArg (Value.int .i64) (IntWalk.i64_in _ (by omega))))) ?_; refine re_rd rfl rfl rfl rfl (rd_assign rfl rfl) ?_; refine re_end rfl ?_
          refine ⟨L.length - (i + 1), by omega, i + 1, k, O ++ [(x.signs.length : Int)], av3, by omega, rfl, hk, ⟨rfl, rfl, congrArg some (congrArg (fun n => Value.slice av3 n n) (by rw [List.length_append]; rfl)), rfl, rfl, rfl, rfl, trivial⟩, ?_, by rw [List.length_append]; simp; omega, ?_⟩
          · rw [List.append_assoc, List.singleton_append, ← takeB_none hx h143]; exact hpr
          · rw [List.length_append, List.map_append]; exact hl.tail
      ·
        refine xp_exit rfl ?_; refine xp_seq rfl ?_; refine xp_region rfl (by kernel_rfl) ?_; refine re_rd rfl rfl rfl rfl (rd_move rfl rfl) ?_; iterate 2 refine re_rd rfl rfl rfl rfl (rd_assign rfl rfl) ?_
        refine re_end rfl ?_; refine xp_ret rfl ?_
        refine done_ret (ress_tmp rfl (ress_tmp rfl rfl)) ⟨hl.keep, firstF_yes h109 (by rw [← hpr, chooseR_end (by have := of_decide_eq_false h112; omega), List.append_nil]) (growI (hl.gr _ (List.mem_cons_self ..)))⟩

end Go.Proofs.YtgnhcamhcnkbfaaGreatDoor

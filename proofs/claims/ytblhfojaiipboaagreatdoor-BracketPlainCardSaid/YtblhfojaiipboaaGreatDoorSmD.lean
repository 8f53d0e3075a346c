/-
  dot.Marks. color.Durs. item.Items. item: counts, digits. item.Of. choices.combo. choices.All. bracket.certain. bracket.runs. bracket.sections. bracket.Chosen. The colored minims are turned. The law. From contracts to calls.
-/
import Derived.Test.YtblhfojaiipboaaGreatDoorSmC
import Derived.Test.YtblhfojaiipboaaGreatDoorBp4
import Derived.Test.YtblhfojaiipboaaGreatDoorSy2

namespace Go.Proofs.YtblhfojaiipboaaGreatDoor
open Go.Cm Go
set_option maxRecDepth 100000
variable {S : St}
def kt (R : List Sg) : Nat := (R.filter fun s => s.kind == 3).length
def ct (R : List Sg) : Nat := (R.filter fun s => !(s.kind == 3)).length
section
variable {R : List Sg} {i : Nat} {s : Sg}
theorem kt_1 (hs : nth R i = some s) (h : (s.kind == 3) = true) : kt (R.take (i + 1)) = kt (R.take i) + 1 ∧ ct (R.take (i + 1)) = ct (R.take i) := by
 rw [take_nth' hs]
 unfold kt ct
 rw [List.filter_append, List.filter_append]
 simp [h]
theorem kt_2 (hs : nth R i = some s) (h : (s.kind == 3) = false) : kt (R.take (i + 1)) = kt (R.take i) ∧ ct (R.take (i + 1)) = ct (R.take i) + 1 := by
 rw [take_nth' hs]
 unfold kt ct
 rw [List.filter_append, List.filter_append]
 simp [h]
theorem kt_le (R : List Sg) (i : Nat) : kt (R.take i) ≤ kt R := ((List.take_sublist i R).filter _).length_le
theorem ct_le (R : List Sg) (i : Nat) : ct (R.take i) ≤ ct R := ((List.take_sublist i R).filter _).length_le
theorem kt_len (R : List Sg) : kt R ≤ R.length := List.length_filter_le _ _
theorem ct_len (R : List Sg) : ct R ≤ R.length := List.length_filter_le _ _
theorem kt_lt (hs : nth R i = some s) (h : (s.kind == 3) = true) : kt (R.take i) < kt R := by
 have := (kt_1 hs h).1
 have := kt_le R (i + 1)
 omega
theorem ct_lt (hs : nth R i = some s) (h : (s.kind == 3) = false) : ct (R.take i) < ct R := by
 have := (kt_2 hs h).2
 have := ct_le R (i + 1)
 omega
end
theorem dtG_kt : ∀ (R : List Sg) (i : Nat), (dtG R i).length = kt R
 | [], _ => rfl
 | s :: r, i => by
  have := dtG_kt r (i + 1)
  unfold kt at *
  cases hk : (s.kind == 3) with
  | true => rw [dt_1 hk, List.length_cons, this]; simp [hk]
  | false => rw [dt_2 hk, this]; simp [hk]
theorem dtE_kt (R : List Sg) : (dtE R).length = kt R := dtG_kt R 0
theorem nth_zs : ∀ {n j : Nat}, j < n → nth (zs n) j = some 0
 | _ + 1, 0, _ => rfl
 | n + 1, j + 1, h => nth_zs (n := n) (j := j) (by omega)
theorem run_ct {R : List Sg} (hR : RunP R) {i : Nat} {s : Sg} (hs : nth R i = some s) (h : (s.kind == 3) = true) : 0 < ct (R.take i) := by
 rcases hR i s hs with (⟨_, _, _, _, _, rfl⟩ | ⟨_, _, rfl⟩) | ⟨rfl, k, v, p, c, rfl, _, _, hn⟩
 ·cases h
 ·cases h
 ·have := (kt_2 hn rfl).2
  omega
noncomputable def cd63 : Code := Tryz.f63.body.getD .skip
theorem spec63 (a : Option Addr) (cap : Nat) (R : List Sg) (ad : Option Addr) (n : Nat) (hF : Fresh S) (hn : R.length ≤ 27) (hR : RunP R) (hv : Sgs S (.slice a R.length cap) R) (hnk : n = kt R) (hc : Ints S (.slice ad n n) (zs n)) : CC Tryz.prog KK 63 [m2, .slice a R.length cap, .slice ad n n] S (fun v S' => Keep S S' ∧ ∃ aC aD C D, v = tupV [.slice aC (ct R) (ct R), .slice aD (ct R) (ct R), .int .i64 0] ∧ C.length = ct R ∧ D.length = ct R ∧ Ints S' (.slice aC (ct R) (ct R)) C ∧ Bools S' (.slice aD (ct R) (ct R)) D) := by
 refine cc_enter (c := cd63) (n := 75) Tryz.func63 rfl rfl rfl (by kernel_rfl) rfl rfl ?_
 have hl := Hold.start S
 refine zg ?_; refine re_boxL hl rfl rfl rfl rfl rfl rfl ?_
 intro B3 S2 hl
 refine zg ?_
 refine zc hl rfl (spec80 a cap R (hl.keep.3 hF) hn hR (hv.move (hl.since 0 rfl))) ?_; rintro w S3 hk1 ⟨av, W, rfl, hWl, hz, hg⟩ hl
 have hW : LsOf 22 1 wc S3 (.slice av W.length W.length) W := Grow.ls (f := wc) (fun _ => rfl) hg
 rw [dtE_kt, ← hnk] at hWl
 have hk27 := kt_len R
 have hl := hl.mark
 refine zg ?_
 constructor <;> intro h32
 ·exfalso
  simp [hWl] at h32
 refine zg ?_; refine xe_sub (L' := [(35, .int .i64 (0 : Int)), (34, .int .i64 W.length), (33, .slice av W.length W.length), (2, .slice ad n n), (1, .slice a R.length cap), (3, ptrTo B3 0), (6, .slice none 0 0), (7, .slice none 0 0), (8, .int .i64 0)]) ⟨rfl, rfl, rfl, rfl, rfl, rfl, rfl, rfl, rfl, trivial⟩ ?_
 refine xp_loop rfl (fun m Le S' => ∃ j : Nat, j ≤ W.length ∧ m = W.length - j ∧ SubE [(35, .int .i64 (j : Int)), (34, .int .i64 W.length), (33, .slice av W.length W.length), (2, .slice ad n n), (1, .slice a R.length cap), (3, ptrTo B3 0), (6, .slice none 0 0), (7, .slice none 0 0), (8, .int .i64 0)] Le ∧ HoldG S [S3, S] S' [(B3, .cells (cellsL m2) 28 false true [])] []) ?_ (m := W.length) ⟨0, by omega, by omega, ⟨rfl, rfl, rfl, rfl, rfl, rfl, rfl, rfl, rfl, trivial⟩, hl⟩
 clear hl; rintro m Le S' ⟨j, hj, rfl, hsub, hl⟩; refine xe_sub hsub ?_
 refine zg ?_
 constructor <;> intro h36
 ·
  have hlt : j < W.length := by have := of_decide_eq_true h36; omega
  obtain ⟨a0, b1, o1, cs1, hi, ha, hrow, htk⟩ := Zs.elemL hlt hz hW
  obtain ⟨b2, o2, cs2, ha2, _, hrow2, htk2⟩ := hc.elem (nth_zs (n := n) (j := j) (by omega))
  refine zg ?_
  refine zc hl rfl (spec83 a0 1 (hi.move (hl.since 0 rfl))) ?_; rintro v S4 hk2 rfl hl
  refine rr rfl (rd_un rfl rfl rfl) ?_; refine zg ?_
  exact ⟨W.length - (j + 1), by omega, j + 1, by omega, rfl, ⟨rfl, rfl, rfl, rfl, rfl, rfl, rfl, rfl, rfl, trivial⟩, hl⟩
 ·
  have hl := hl.marks (Us := [S]) fun T hT => List.mem_cons_of_mem _ hT
  refine zg ?_; refine re_allocL hl rfl rfl rfl rfl rfl (z := [.slice none 0 0]) (by kernel_rfl) ?_
  intro B13 S5 hl
  refine zg ?_; refine re_allocL hl rfl rfl rfl rfl rfl (z := [.slice none 0 0]) (by kernel_rfl) ?_
  intro B14 S6 hl
  refine zg ?_; refine rr rfl (rd_func rfl rfl rfl) ?_; refine zg ?_
  have hl : HoldG S [S] S6 ([(B13, Blk.cells [.slice none 0 0] 22 false true []), (B14, .cells [.slice none 0 0] 49 false true [])] ++ ([(B3, .cells (cellsL m2) 28 false true [])] ++ ([] ++ []))) [] := hl.perm (List.Perm.swap _ _ _)
  refine xe_sub (L' := [(51, .int .i64 (0 : Int)), (50, .int .i64 R.length), (49, .slice a R.length cap), (16, .int .i64 (0 : Int)), (15, .func (.func 84) #[] #[ptrTo B13 0, ptrTo B14 0]), (14, ptrTo B14 0), (13, ptrTo B13 0), (2, .slice ad n n)]) ⟨rfl, rfl, rfl, rfl, rfl, rfl, rfl, rfl, trivial⟩ ?_
  refine xp_loop rfl (fun m Le S' => ∃ (i k : Nat) (C : List Int) (D : List Bool) (vA vB : Value) (fA fB : List (Nat × Blk)), i ≤ R.length ∧ m = R.length - i ∧ k = kt (R.take i) ∧ C.length = ct (R.take i) ∧ D.length = C.length ∧ OW vA 3 1 ((C.map ic).flatten) C.length fA ∧ OW vB 4 1 ((D.map bc).flatten) D.length fB ∧ SubE [(51, .int .i64 (i : Int)), (50, .int .i64 R.length), (49, .slice a R.length cap), (16, .int .i64 (k : Int)), (15, .func (.func 84) #[] #[ptrTo B13 0, ptrTo B14 0]), (14, ptrTo B14 0), (13, ptrTo B13 0), (2, .slice ad n n)] Le ∧ HoldG S [S] S' ([(B13, Blk.cells [vA] 22 false true []), (B14, .cells [vB] 49 false true [])] ++ ([(B3, .cells (cellsL m2) 28 false true [])] ++ (fA ++ fB))) []) ?_ (m := R.length) ⟨0, 0, [], [], _, _, [], [], by omega, by omega, rfl, rfl, rfl, .inl ⟨rfl, rfl, rfl, rfl⟩, .inl ⟨rfl, rfl, rfl, rfl⟩, ⟨rfl, rfl, rfl, rfl, rfl, rfl, rfl, rfl, trivial⟩, hl⟩
  clear hl; rintro m Le S' ⟨i, k, C, D, vA, vB, fA, fB, hi, rfl, hk, hC, hD, hA, hB, hsub, hl⟩; refine xe_sub hsub ?_
  refine zg ?_
  constructor <;> intro h52
  ·
   have hlt : i < R.length := by have := of_decide_eq_true h52; omega
   have hCR := ct_le R i
   have hcR := ct_len R
   obtain ⟨s, hs⟩ := nth_some hlt
   obtain ⟨b1, o1, cs1, ha, _, hrow, htk⟩ := hv.elem hs
   refine zg ?_; refine re_allocL hl rfl rfl rfl rfl rfl (z := (dotS.cells.set 0 (.int .i64 0))) (by kernel_rfl) ?_
   intro B18 S7 hl
   refine re_storeL hl 0 rfl rfl rfl rfl rfl rfl rfl (by kernel_rfl) (c' := s.cells) rfl ?_
   intro S8 hl
   refine zg ?_
   constructor <;> intro h57
   ·
    have hkl := kt_lt hs h57
    have h0 := run_ct hR hs h57
    obtain ⟨b2, o2, cs2, ha2, _, hrow2, htk2⟩ := hc.elem (nth_zs (n := n) (j := k) (by omega))
    have hl := hl.tail
    refine zg ?_
    refine re_call rfl rfl rfl rfl rfl rfl rfl (cc_mono (spec84 [(B3, .cells (cellsL m2) 28 false true [])] hl hA hB (by omega) hD (by omega)) ?_); rintro v S9 ⟨rfl, C2, D2, fA2, fB2, hA2, hB2, hC2, hD2, hl⟩
    refine zg ?_
    exact ⟨R.length - (i + 1), by omega, i + 1, k + 1, C2, D2, vA, vB, fA2, fB2, by omega, rfl, by rw [(kt_1 hs h57).1, hk], by rw [(kt_1 hs h57).2, hC2, hC], by omega, by rw [hC2]; rw [hC2] at hA2; exact hA2, by rw [hD2]; rw [hD2] at hB2; exact hB2, ⟨rfl, rfl, rfl, rfl, rfl, rfl, rfl, rfl, trivial⟩, hl⟩
   ·
    obtain ⟨aA, rfl⟩ := hA.is
    obtain ⟨aB, rfl⟩ := hB.is
    have hl := hl.tail
    refine zg ?_; refine xp_draw (idx := [0, 1, 3, 4, 2, 5, 6, 7]) rfl (by kernel_rfl) (by kernel_rfl) ?_; refine zg ?_; refine rp_buildSliceB hF hl rfl rfl rfl rfl rfl Tryz.underlying22 rfl (c := [.int .i64 0]) (by kernel_rfl) ?_; intro B67 S9 hl; refine zg ?_; refine rp_buildSliceB hF hl rfl rfl rfl rfl rfl Tryz.underlying49 rfl (c := [.bool false]) (by kernel_rfl) ?_; intro B70 S10 hl
    have hl : HoldG S [S] S10 ([(B70, Blk.cells [.bool false] 4 true true []), (B67, .cells [.int .i64 0] 3 true true []), (B13, .cells [.slice aA C.length C.length] 22 false true []), (B14, .cells [.slice aB D.length D.length] 49 false true []), (B3, .cells (cellsL m2) 28 false true [])] ++ (fA ++ fB)) [] := hl
    refine rp_appendW hl hA rfl rfl rfl rfl rfl rfl rfl Tryz.underlying22 Tryz.underlying22 rfl rfl (by decide) (by kernel_rfl) (src_row (n := 1) (cap := 1) (new := [.int .i64 0]) ⟨(hl.at_ _ _ (nth_mem (k := 1) rfl)).2.2, true, [], hl.get 1 rfl⟩ rfl) rfl rfl (by kernel_rfl) (by show C.length + 1 ≤ maxNeed; unfold maxNeed; omega) ?_; intro v68 fA2 S11 hA2 hl
    refine ⟨zt, ?_⟩
    have hl : HoldG S [S] S11 ([(B70, Blk.cells [.bool false] 4 true true []), (B67, .cells [.int .i64 0] 3 true true []), (B13, .cells [.slice aA C.length C.length] 22 false true []), (B14, .cells [.slice aB D.length D.length] 49 false true []), (B3, .cells (cellsL m2) 28 false true [])] ++ (fB ++ fA2)) [] := hl.perm (List.Perm.append_left _ List.perm_append_comm)
    refine rp_appendW hl hB rfl rfl rfl rfl rfl rfl rfl Tryz.underlying49 Tryz.underlying49 rfl rfl (by decide) (by kernel_rfl) (src_row (n := 1) (cap := 1) (new := [.bool false]) ⟨(hl.at_ _ _ (nth_mem (k := 0) rfl)).2.2, true, [], hl.get 0 rfl⟩ rfl) rfl rfl (by kernel_rfl) (by show D.length + 1 ≤ maxNeed; unfold maxNeed; omega) ?_; intro v71 fB2 S12 hB2 hl
    refine ⟨zt, ?_⟩
    have hl : HoldG S [S] S12 ([(B70, Blk.cells [.bool false] 4 true true []), (B67, .cells [.int .i64 0] 3 true true []), (B13, .cells [.slice aA C.length C.length] 22 false true []), (B14, .cells [.slice aB D.length D.length] 49 false true []), (B3, .cells (cellsL m2) 28 false true [])] ++ (fA2 ++ fB2)) [] := hl.perm (List.Perm.append_left _ List.perm_append_comm)
    obtain ⟨a68, rfl⟩ := hA2.is
    obtain ⟨a71, rfl⟩ := hB2.is
    refine rp_storeL hl 2 rfl rfl rfl rfl rfl rfl rfl (by kernel_rfl) (c' := [.slice a68 (C.length + 1) (C.length + 1)]) rfl ?_; intro S13 hl
    refine ⟨zt, ?_⟩
    refine rp_storeL hl 3 rfl rfl rfl rfl rfl rfl rfl (by kernel_rfl) (c' := [.slice a71 (D.length + 1) (D.length + 1)]) rfl ?_; intro S14 hl
    refine ⟨zt, ?_⟩
    refine zg ?_
    exact ⟨R.length - (i + 1), by omega, i + 1, k, C ++ [0], D ++ [false], _, _, fA2, fB2, by omega, rfl, by rw [(kt_2 hs h57).1, hk], by rw [(kt_2 hs h57).2, List.length_append, hC]; rfl, by rw [List.length_append, List.length_append, hD]; rfl, by rw [flat_push, List.length_append]; exact hA2, by rw [flat_push, List.length_append]; exact hB2, ⟨rfl, rfl, rfl, rfl, rfl, rfl, rfl, rfl, trivial⟩, hl.tail.tail⟩
  ·
   obtain rfl : i = R.length := by have := of_decide_eq_false h52; omega
   rw [List.take_length] at hC
   obtain ⟨aC, rfl⟩ := hA.is
   obtain ⟨aD, rfl⟩ := hB.is
   rw [hC] at hD
   have hI : Ints S' (.slice aC C.length C.length) C := OW.ls (f := ic) (q := [(B13, Blk.cells [.slice aC C.length C.length] 22 false true []), (B14, .cells [.slice aD D.length D.length] 49 false true [])] ++ [(B3, .cells (cellsL m2) 28 false true [])]) (l := fB) (fun _ => rfl) hA hl
   have hJ : Bools S' (.slice aD D.length D.length) D := OW.ls (f := bc) (q := [(B13, Blk.cells [.slice aC C.length C.length] 22 false true []), (B14, .cells [.slice aD D.length D.length] 49 false true [])] ++ [(B3, .cells (cellsL m2) 28 false true [])]) (l := fA) (fun _ => rfl) hB (hl.perm (List.Perm.append_left ([(B13, Blk.cells [.slice aC C.length C.length] 22 false true []), (B14, .cells [.slice aD D.length D.length] 49 false true [])] ++ [(B3, .cells (cellsL m2) 28 false true [])]) List.perm_append_comm))
   refine zg ?_; refine xp_draw (idx := [0, 1, 2, 3, 4]) rfl (by kernel_rfl) (by kernel_rfl) ?_; refine zg ?_
   rw [hC, hD]
   rw [hC] at hI
   rw [hD] at hJ
   refine zg ?_
   exact done_ret (ress_tmp rfl (ress_tmp rfl (ress_tmp rfl rfl))) ⟨hl.keep, aC, aD, C, D, rfl, hC, hD, hI, hJ⟩
end Go.Proofs.YtblhfojaiipboaaGreatDoor
namespace Go.Proofs.YtblhfojaiipboaaGreatDoor
open Go.Cm Go
set_option maxRecDepth 100000
variable {S : St}
def TimeOk (t : Ti) : Prop := ∃ v : Int, (1 ≤ v ∧ v ≤ 8) ∧ (t = fullT v ∨ t = colT v)
def t0 : Ti := ⟨0, 0⟩
theorem look_none {S : St} {r : Nat} {k : Int} (hg : S.get r = some (.map [] 0)) : lookupV Tryz.prog 172 (.map (some r)) (.int .i64 k) true S = some (tupV [t0.v, .bool false]) := by
 unfold lookupV mapOf
 have hz : zeroV Tryz.prog 65 = some t0.v := by kernel_rfl
 have hk : keyOk Tryz.prog 20 3 (.int .i64 k) = true := by kernel_rfl
 simp only [Tryz.underlying172, hg, hk, if_true, findV, hz]
 rfl
noncomputable def cd64 : Code := Tryz.f64.body.getD .skip
theorem spec64 (a : Option Addr) (cap : Nat) (R : List Sg) (hF : Fresh S) (hn : R.length ≤ 27) (hR : RunP R) (hM : NoCM R) (hv : Sgs S (.slice a R.length cap) R) : CC Tryz.prog KK 64 [m2, .slice a R.length cap, .slice none 0 0] S (fun v S' => Keep S S' ∧ ∃ av O, v = tupV [.slice av O.length O.length, .int .i64 0] ∧ O.length = ct R ∧ (∀ t, t ∈ O → TimeOk t) ∧ Grow S S' (gT av O)) := by
 refine cc_enter (c := cd64) (n := 95) Tryz.func64 rfl rfl rfl (by kernel_rfl) rfl rfl ?_
 have hl := Hold.start S
 refine zg ?_; refine re_boxL hl rfl rfl rfl rfl rfl rfl ?_
 intro B3 S3 hl
 refine zg ?_
 refine zc hl rfl (spec85 a cap R (hl.keep.3 hF) hn hR hM (hv.move (hl.since 0 rfl))) ?_; rintro v S4 hk1 rfl hl
 refine zg ?_; refine re_makeMapL hl (fun k : Int => .int .i64 k) rfl rfl rfl rfl rfl ?_; intro B32 S32 hl
 have hl : HoldG S [S] S32 [(B32, .map [] 0), (B3, .cells (cellsL m2) 28 false true [])] [] := hl
 refine zg ?_; refine xe_sub (L' := [(35, .int .i64 0), (34, .int .i64 0), (33, .slice none 0 0), (10, .map (some B32)), (3, ptrTo B3 0), (6, .slice none 0 0), (7, .int .i64 0), (1, .slice a R.length cap), (2, .slice none 0 0)]) ⟨rfl, rfl, rfl, rfl, rfl, rfl, rfl, rfl, rfl, trivial⟩ ?_
 refine xp_loop rfl (fun m Le S' => SubE [(35, .int .i64 0), (34, .int .i64 0), (33, .slice none 0 0), (10, .map (some B32)), (3, ptrTo B3 0), (6, .slice none 0 0), (7, .int .i64 0), (1, .slice a R.length cap), (2, .slice none 0 0)] Le ∧ HoldG S [S] S' [(B32, .map [] 0), (B3, .cells (cellsL m2) 28 false true [])] []) ?_ (m := 0) ⟨⟨rfl, rfl, rfl, rfl, rfl, rfl, rfl, rfl, rfl, trivial⟩, hl⟩
 clear hl; rintro m Le S' ⟨hsub, hl⟩; refine xe_sub hsub ?_
 refine zg ?_
 have hl := hl.addG (g := gT none []) (.inl ⟨rfl, rfl, rfl⟩)
 refine xe_sub (L' := [(58, .int .i64 (0 : Int)), (57, .int .i64 R.length), (56, .slice a R.length cap), (13, .slice none ([] : List Ti).length ([] : List Ti).length), (10, .map (some B32)), (3, ptrTo B3 0), (6, .slice none 0 0), (7, .int .i64 0)]) ⟨rfl, rfl, rfl, rfl, rfl, rfl, rfl, rfl, trivial⟩ ?_
 refine xp_loop rfl (fun m Le S' => ∃ (i : Nat) (av : Option Addr) (O : List Ti), i ≤ R.length ∧ m = R.length - i ∧ O.length = ct (R.take i) ∧ (∀ t, t ∈ O → TimeOk t) ∧ SubE [(58, .int .i64 (i : Int)), (57, .int .i64 R.length), (56, .slice a R.length cap), (13, .slice av O.length O.length), (10, .map (some B32)), (3, ptrTo B3 0), (6, .slice none 0 0), (7, .int .i64 0)] Le ∧ HoldG S [S] S' [(B32, .map [] 0), (B3, .cells (cellsL m2) 28 false true [])] [gT av O]) ?_ (m := R.length) ⟨0, none, [], by omega, by omega, rfl, (fun t ht => (List.not_mem_nil ht).elim), ⟨rfl, rfl, rfl, rfl, rfl, rfl, rfl, rfl, trivial⟩, hl⟩
 clear hl; rintro m Le S' ⟨i, av, O, hi, rfl, hO, hT, hsub, hl⟩; refine xe_sub hsub ?_
 refine zg ?_
 constructor <;> intro h59
 ·
  have hlt : i < R.length := by have := of_decide_eq_true h59; omega
  have hcR := ct_len R
  have hCR := ct_le R i
  obtain ⟨s, hs⟩ := nth_some hlt
  obtain ⟨b1, o1, cs1, ha, _, hrow, htk⟩ := hv.elem hs
  refine zg ?_; refine re_allocL hl rfl rfl rfl rfl rfl (z := (dotS.cells.set 0 (.int .i64 0))) (by kernel_rfl) ?_
  intro B15 S5 hl
  refine zg ?_; refine re_storeL hl 0 rfl rfl rfl rfl rfl rfl rfl (by kernel_rfl) (c' := s.cells) rfl ?_
  intro S6 hl
  refine zg ?_; refine rr rfl (rd_lookup rfl rfl rfl (look_none (hl.get 1 rfl))) ?_; refine zg ?_; refine re_allocL hl rfl rfl rfl rfl rfl (z := t0.cells) (by kernel_rfl) ?_
  intro B16 S7 hl
  refine re_storeL hl 0 rfl rfl rfl rfl rfl rfl rfl (by kernel_rfl) (c' := t0.cells) rfl ?_
  intro S8 hl
  cases hk3 : (s.kind == 3) with
  | true =>
   refine zg ?_
   constructor <;> intro h76
   case right => rw [hk3] at h76; cases h76
   refine zg ?_
   exact ⟨R.length - (i + 1), by omega, i + 1, av, O, by omega, rfl, by rw [(kt_1 hs hk3).2, hO], hT, ⟨rfl, rfl, rfl, rfl, rfl, rfl, rfl, rfl, trivial⟩, hl.tail.tail⟩
  | false =>
   have hnr : NR s := by
    rcases hR i s hs with h | ⟨rfl, _⟩
    ·exact h
    ·cases hk3
   have hvl := nr_val hnr
   refine zA ?_; refine xp_seq rfl (xe_cut (fun Le S' => ∃ t : Ti, TimeOk t ∧ SubE [(16, ptrTo B16 0), (15, ptrTo B15 0), (58, .int .i64 (i : Int)), (57, .int .i64 R.length), (56, .slice a R.length cap), (13, .slice av O.length O.length), (10, .map (some B32)), (3, ptrTo B3 0), (6, .slice none 0 0), (7, .int .i64 0)] Le ∧ HoldG S [S] S' [(B16, .cells t.cells 65 false true []), (B15, .cells s.cells 32 false true []), (B32, .map [] 0), (B3, .cells (cellsL m2) 28 false true [])] [gT av O]) ?_ ?_)
   ·
    refine zg ?_
    constructor <;> intro h76
    ·rw [hk3] at h76; cases h76
    refine zg ?_
    refine zc hl rfl (spec86 s) ?_; rintro v S9 hk1 rfl hl
    refine zg ?_
    constructor <;> intro h82
    ·
     refine zg ?_
     refine zc hl rfl (kDur hvl) ?_; rintro v S10 hk2 rfl hl
     refine re_storeL hl 0 rfl rfl rfl rfl rfl rfl rfl (by kernel_rfl) (c' := (colT s.value).cells) rfl ?_
     intro S11 hl
     refine zg ?_
     exact ⟨rfl, colT s.value, ⟨_, hvl, .inr rfl⟩, ⟨rfl, rfl, rfl, rfl, rfl, rfl, rfl, rfl, rfl, rfl, trivial⟩, hl⟩
    ·
     refine zg ?_
     refine zc hl rfl (kFull hvl) ?_; rintro v S10 hk2 rfl hl
     refine zg ?_; refine re_storeL hl 0 rfl rfl rfl rfl rfl rfl rfl (by kernel_rfl) (c' := (fullT s.value).cells) rfl ?_
     intro S11 hl
     refine zg ?_
     exact ⟨rfl, fullT s.value, ⟨_, hvl, .inl rfl⟩, ⟨rfl, rfl, rfl, rfl, rfl, rfl, rfl, rfl, rfl, rfl, trivial⟩, hl⟩
   clear hl; rintro Le3 S12 ⟨t, ht, hsub3, hl⟩; refine xe_sub hsub3 ?_
   refine zg ?_; refine re_buildSliceR hl rfl rfl rfl rfl rfl Tryz.underlying85 rfl (c := t.cells) (by kernel_rfl) ?_; intro B91 S13 hr91 hl; refine re_appendG hl 0 rfl rfl (by simp) rfl rfl rfl rfl rfl rfl rfl Tryz.underlying85 Tryz.underlying85 rfl rfl (by kernel_rfl) (src_row (new := t.cells) hr91 rfl) rfl rfl (by kernel_rfl) (by show O.length + 1 ≤ maxNeed; unfold maxNeed; omega) ?_; intro v92 S14 hl
   obtain ⟨av2, rfl⟩ : ∃ x, v92 = .slice x (O.length + 1) (O.length + 1) := Grow.is (hl.gr _ (List.mem_cons_self ..))
   refine zg ?_
   refine ⟨R.length - (i + 1), by omega, i + 1, av2, O ++ [t], by omega, rfl, by rw [(kt_2 hs hk3).2, List.length_append, hO]; rfl, fun u hu => ?_, ⟨rfl, rfl, rfl, congrArg some (congrArg (fun n => Value.slice av2 n n) (by rw [List.length_append]; rfl)), rfl, rfl, rfl, rfl, trivial⟩, ?_⟩
   ·rcases List.mem_append.1 hu with hu | hu
    ·exact hT u hu
    ·rw [List.mem_singleton.1 hu]; exact ht
   ·rw [gT, gOf_push]
    exact hl.tail.tail
 ·
  obtain rfl : i = R.length := by have := of_decide_eq_false h59; omega
  rw [List.take_length] at hO
  refine zg ?_
  exact y2 rfl rfl ⟨hl.keep, av, O, rfl, hO, hT, hl.gr _ (List.mem_cons_self ..)⟩
end Go.Proofs.YtblhfojaiipboaaGreatDoor
namespace Go.Proofs.YtblhfojaiipboaaGreatDoor
open Go.Cm Go
set_option maxRecDepth 100000
variable {S : St}
abbrev gI (av : Option Addr) (O : List It) : Gr := gOf 138 12 It.cells (.slice av O.length O.length) O
def It.v (x : It) : Value := aggL x.cells
def Gh (S : St) : Prop := 1 < S.size ∧ S.get 1 = some (.cells [.int .i64 3, .int .i64 2] 0 false false [])
theorem Gh.keep {S T : St} (h : Gh S) (k : Keep S T) : Gh T := ⟨Nat.lt_of_lt_of_le h.1 k.1, (k.2 1 h.1).trans h.2⟩
noncomputable def cd49 : Code := Tryz.f49.body.getD .skip
theorem spec49 (a : Option Addr) (cap : Nat) (R : List Sg) (ad : Option Addr) (n : Nat) (hF : Fresh S) (hGh : Gh S) (hn : R.length ≤ 27) (hR : RunP R) (hM : NoCM R) (hv : Sgs S (.slice a R.length cap) R) (hnk : n = kt R) (hc : Ints S (.slice ad n n) (zs n)) : CC Tryz.prog KK 49 [m2, .slice a R.length cap, .slice ad n n, .slice none 0 0] S (fun v S' => Keep S S' ∧ ∃ av O, v = tupV [.slice av O.length O.length, .int .i64 0] ∧ O.length = ct R ∧ Grow S S' (gI av O)) := by
 refine cc_enter (c := cd49) (n := 118) Tryz.func49 rfl rfl rfl (by kernel_rfl) rfl rfl ?_
 have hl := Hold.start S
 refine zg ?_; refine re_boxL hl rfl rfl rfl rfl rfl rfl ?_
 intro B4 S4 hl
 refine zg ?_
 refine zc hl rfl (spec62 a cap R (hl.keep.3 hF) hn hR (hv.move (hl.since 0 rfl))) ?_; rintro w S5 hk1 rfl hl
 refine zg ?_
 refine zc hl rfl (spec63 a cap R ad n (hl.keep.3 hF) hn hR (hv.move (hl.since 0 rfl)) hnk (hc.move (hl.since 0 rfl))) ?_; rintro w S6 hk2 ⟨aC, aD, C, D, rfl, hC, hD, hIC, hID⟩ hl
 have hl := hl.mark
 refine zg ?_
 refine zc hl rfl (spec64 a cap R (hl.keep.3 hF) hn hR hM (hv.move (hl.since 1 rfl))) ?_; rintro w S7 hk3 ⟨aT, OT, rfl, hOT, hTT, hgT⟩ hl
 have hIT : Tis S7 (.slice aT OT.length OT.length) OT := Grow.ls (f := Ti.cells) (fun _ => rfl) hgT
 have hl := hl.mark
 refine zg ?_
 have hl := hl.addG (g := gI none []) (.inl ⟨rfl, rfl, rfl⟩)
 refine xe_sub (L' := [(49, .int .i64 (0 : Int)), (48, .int .i64 R.length), (47, .slice a R.length cap), (15, .slice none ([] : List It).length ([] : List It).length), (14, .slice aT OT.length OT.length), (12, .slice aD (ct R) (ct R)), (11, .slice aC (ct R) (ct R)), (8, .slice none 0 0), (9, .int .i64 0)]) ⟨rfl, rfl, rfl, rfl, rfl, rfl, rfl, rfl, rfl, trivial⟩ ?_
 refine xp_loop rfl (fun m Le S' => ∃ (i : Nat) (av : Option Addr) (O : List It), i ≤ R.length ∧ m = R.length - i ∧ O.length = ct (R.take i) ∧ SubE [(49, .int .i64 (i : Int)), (48, .int .i64 R.length), (47, .slice a R.length cap), (15, .slice av O.length O.length), (14, .slice aT OT.length OT.length), (12, .slice aD (ct R) (ct R)), (11, .slice aC (ct R) (ct R)), (8, .slice none 0 0), (9, .int .i64 0)] Le ∧ HoldG S [S7, S6, S] S' [(B4, .cells (cellsL m2) 28 false true [])] [gI av O]) ?_ (m := R.length) ⟨0, none, [], by omega, by omega, rfl, ⟨rfl, rfl, rfl, rfl, rfl, rfl, rfl, rfl, rfl, trivial⟩, hl⟩
 clear hl; rintro m Le S' ⟨i, av, O, hi, rfl, hO, hsub, hl⟩; refine xe_sub hsub ?_
 refine zg ?_
 constructor <;> intro h50
 ·
  have hlt : i < R.length := by have := of_decide_eq_true h50; omega
  have hcR := ct_len R
  have hCR := ct_le R i
  obtain ⟨s, hs⟩ := nth_some hlt
  obtain ⟨b1, o1, cs1, ha, _, hrow, htk⟩ := hv.elem hs
  refine zg ?_; refine re_allocL hl rfl rfl rfl rfl rfl (z := (dotS.cells.set 0 (.int .i64 0))) (by kernel_rfl) ?_
  intro B17 S17 hl
  refine zg ?_; refine re_storeL hl 0 rfl rfl rfl rfl rfl rfl rfl (by kernel_rfl) (c' := s.cells) rfl ?_
  intro S18 hl
  refine zg ?_
  constructor <;> intro h56
  ·
   refine zg ?_
   exact ⟨R.length - (i + 1), by omega, i + 1, av, O, by omega, rfl, by rw [(kt_1 hs h56).2, hO], ⟨rfl, rfl, rfl, rfl, rfl, rfl, rfl, rfl, rfl, trivial⟩, hl.tail⟩
  have hat : O.length < ct R := by rw [hO]; exact ct_lt hs h56
  obtain ⟨cu, hcu⟩ := nth_some (l := C) (i := O.length) (by omega)
  obtain ⟨du, hdu⟩ := nth_some (l := D) (i := O.length) (by omega)
  obtain ⟨t, htm⟩ := nth_some (l := OT) (i := O.length) (by omega)
  have hto := hTT t (nth_mem htm)
  rw [← hC] at hIC
  rw [← hD] at hID
  obtain ⟨b2, o2, cs2, ha2, _, hrow2, htk2⟩ := hIC.elem hcu
  obtain ⟨b3, o3, cs3, ha3, _, hrow3, htk3⟩ := hID.elem hdu
  obtain ⟨b5, o5, cs5, ha5, _, hrow5, htk5⟩ := hIT.elem htm
  refine xp_skip rfl ?_; refine zS ?_; refine xp_seq rfl (xe_cut (fun Le S' => ∃ (x : It) (B19 : Nat), x.dur = t ∧ SubE [(19, ptrTo B19 0), (18, .int .i64 (O.length : Int)), (49, .int .i64 (i : Int)), (48, .int .i64 R.length), (47, .slice a R.length cap), (15, .slice av O.length O.length), (14, .slice aT OT.length OT.length), (12, .slice aD (ct R) (ct R)), (11, .slice aC (ct R) (ct R)), (8, .slice none 0 0), (9, .int .i64 0)] Le ∧ HoldG S [S7, S6, S] S' [(B19, .cells x.cells 138 false true []), (B17, .cells s.cells 32 false true []), (B4, .cells (cellsL m2) 28 false true [])] [gI av O]) ?_ ?_)
  ·
   refine xp_draw (idx := [0, 1, 2, 3, 4, 5, 6, 7, 8, 9, 10, 11, 12, 13, 14, 15, 16, 17, 18, 19, 20, 21, 22, 23]) rfl (by kernel_rfl) (by kernel_rfl) ?_; refine zg ?_; refine rp_bool (d := 68) rfl (fun h68 => ?_) (fun h68 => ?_)
   ·
    refine zg ?_; refine pr rfl (rd_build rfl rfl (v := (It.mk (i : Int) s.value (s.kind == 2) s.color false cu t t0 t0).v) (by rfl)) ?_; refine rp_allocL hF hl rfl rfl rfl rfl rfl (z := [.int .i64 0, .int .i64 0, .bool false, .bool false, .bool false, .int .i64 0, .int .i64 0, .int .i64 0, .int .i64 0, .int .i64 0, .int .i64 0, .int .i64 0]) (by kernel_rfl) ?_; intro B19 S19 hl
    refine rp_storeL hl 0 rfl rfl rfl rfl rfl rfl rfl (by kernel_rfl) (c' := (It.mk (i : Int) s.value (s.kind == 2) s.color false cu t t0 t0).cells) rfl ?_; intro S20 hl; refine ⟨zt, ?_⟩
    refine zg ?_
    exact ⟨rfl, _, B19, rfl, ⟨rfl, rfl, rfl, rfl, rfl, rfl, rfl, rfl, rfl, rfl, rfl, trivial⟩, hl⟩
   ·
    refine zg ?_; refine pr rfl (rd_build rfl rfl (v := (It.mk (i : Int) s.value (s.kind == 2) false false cu t t0 t0).v) (by rfl)) ?_; refine rp_allocL hF hl rfl rfl rfl rfl rfl (z := [.int .i64 0, .int .i64 0, .bool false, .bool false, .bool false, .int .i64 0, .int .i64 0, .int .i64 0, .int .i64 0, .int .i64 0, .int .i64 0, .int .i64 0]) (by kernel_rfl) ?_; intro B19 S19 hl
    refine rp_storeL hl 0 rfl rfl rfl rfl rfl rfl rfl (by kernel_rfl) (c' := (It.mk (i : Int) s.value (s.kind == 2) false false cu t t0 t0).cells) rfl ?_; intro S20 hl; refine ⟨zt, ?_⟩
    refine zg ?_
    exact ⟨rfl, _, B19, rfl, ⟨rfl, rfl, rfl, rfl, rfl, rfl, rfl, rfl, rfl, rfl, rfl, trivial⟩, hl⟩
  clear hl; rintro Le3 S21 ⟨x, B19, hx, hsub3, hl⟩; refine xe_sub hsub3 ?_
  refine zg ?_; iterate 2 refine rr rfl (rd_build rfl rfl (v := (Ti.mk 0 1).v) (by rfl)) ?_
  refine zg ?_; refine re_storeL hl 0 rfl rfl rfl rfl rfl rfl rfl (by kernel_rfl) (c' := ({ x with bef := ⟨0, 1⟩ } : It).cells) rfl ?_
  intro S22 hl
  refine zg ?_; refine re_storeL hl 0 rfl rfl rfl rfl rfl rfl rfl (by kernel_rfl) (c' := ({ x with bef := ⟨0, 1⟩, aft := ⟨0, 1⟩ } : It).cells) rfl ?_
  intro S23 hl
  obtain ⟨y, hy, hyd⟩ : ∃ y : It, y = { x with bef := ⟨0, 1⟩, aft := ⟨0, 1⟩ } ∧ y.dur = t := ⟨_, rfl, hx⟩
  have hl : HoldG S [S7, S6, S] S23 [(B19, .cells y.cells 138 false true []), (B17, .cells s.cells 32 false true []), (B4, .cells (cellsL m2) 28 false true [])] [gI av O] := by rw [hy]; exact hl
  clear hy hx
  refine zA ?_; refine xp_seq rfl (xe_cut (fun Le S' => ∃ (x : It), SubE [(19, ptrTo B19 0), (18, .int .i64 (O.length : Int)), (49, .int .i64 (i : Int)), (48, .int .i64 R.length), (47, .slice a R.length cap), (15, .slice av O.length O.length), (14, .slice aT OT.length OT.length), (12, .slice aD (ct R) (ct R)), (11, .slice aC (ct R) (ct R)), (8, .slice none 0 0), (9, .int .i64 0)] Le ∧ HoldG S [S7, S6, S] S' [(B19, .cells x.cells 138 false true []), (B17, .cells s.cells 32 false true []), (B4, .cells (cellsL m2) 28 false true [])] [gI av O]) ?_ ?_)
  ·
   refine zg ?_
   constructor <;> intro h85
   ·
    refine zg ?_; refine rr rfl (rd_load rfl rfl (lN (z := 2) (hGh.keep hl.keep).2 rfl)) ?_
    rw [hyd]
    obtain ⟨v, hv8, htv⟩ := hto
    have hmul : ∃ t2 : Ti, CC Tryz.prog KK 65 [t.v, aggL [.int .i64 3, .int .i64 2]] S23 fun w S' => Keep S23 S' ∧ w = tupV [t2.v, .int .i64 0] := by
     rcases htv with rfl | rfl
     ·exact ⟨_, kHalf hv8⟩
     ·exact ⟨_, kHalfC hv8⟩
    obtain ⟨t2, hmul⟩ := hmul
    refine zc hl rfl hmul ?_; rintro w S24 hk4 rfl hl
    refine zg ?_; refine re_storeL hl 0 rfl rfl rfl rfl rfl rfl rfl (by kernel_rfl) (c' := ({ y with dur := t2 } : It).cells) rfl ?_
    intro S25 hl
    refine zg ?_; refine re_storeL hl 0 rfl rfl rfl rfl rfl rfl rfl (by kernel_rfl) (c' := ({ y with dur := t2, fix := true } : It).cells) rfl ?_
    intro S26 hl
    refine zg ?_
    exact ⟨rfl, _, ⟨rfl, rfl, rfl, rfl, rfl, rfl, rfl, rfl, rfl, rfl, rfl, trivial⟩, hl⟩
   ·
    refine xp_skip rfl ?_; refine xp_seq rfl (xe_toE hl 90 (.bool (y.rest || y.col || (y.cut == y.val))) ?_ rfl ?_)
    ·
     refine zg ?_
     constructor <;> intro h90
     ·
      refine zg ?_
      exact ⟨rfl, bl (by simp [h90]), sB, hl⟩
     ·
      refine zg ?_
      constructor <;> intro h1090
      ·
       refine zg ?_
       exact ⟨rfl, bl (by simp [h1090, h90]), sB, hl⟩
      ·
       refine zg ?_
       exact ⟨rfl, bl (by simp [h1090, h90]), sB, hl⟩
    intro S24 hl
    refine zg ?_
    constructor <;> intro h90
    ·
     refine zg ?_; refine re_storeL hl 0 rfl rfl rfl rfl rfl rfl rfl (by kernel_rfl) (c' := ({ y with fix := true } : It).cells) rfl ?_
     intro S25 hl
     refine zg ?_
     exact ⟨rfl, _, ⟨rfl, rfl, rfl, rfl, rfl, rfl, rfl, rfl, rfl, rfl, rfl, trivial⟩, hl⟩
    ·
     refine zg ?_
     exact ⟨rfl, _, ⟨rfl, rfl, rfl, rfl, rfl, rfl, rfl, rfl, rfl, rfl, rfl, trivial⟩, hl⟩
  clear hl; rintro Le4 S27 ⟨x2, hsub4, hl⟩; refine xe_sub hsub4 ?_
  refine zg ?_; refine re_buildSliceR hl rfl rfl rfl rfl rfl Tryz.underlying112 rfl (c := x2.cells) (by kernel_rfl) ?_; intro B114 S28 hr114 hl; refine re_appendG hl 0 rfl rfl (by simp) rfl rfl rfl rfl rfl rfl rfl Tryz.underlying112 Tryz.underlying112 rfl rfl (by kernel_rfl) (src_row (new := x2.cells) hr114 rfl) rfl rfl (by kernel_rfl) (by show O.length + 1 ≤ maxNeed; unfold maxNeed; omega) ?_; intro v115 S29 hl
  obtain ⟨av2, rfl⟩ : ∃ x, v115 = .slice x (O.length + 1) (O.length + 1) := Grow.is (hl.gr _ (List.mem_cons_self ..))
  refine zg ?_
  refine ⟨R.length - (i + 1), by omega, i + 1, av2, O ++ [x2], by omega, rfl, by rw [(kt_2 hs h56).2, List.length_append, hO]; rfl, ⟨rfl, rfl, rfl, congrArg some (congrArg (fun n => Value.slice av2 n n) (by rw [List.length_append]; rfl)), rfl, rfl, rfl, rfl, rfl, trivial⟩, ?_⟩
  rw [gI, gOf_push]
  exact hl.tail.tail
 ·
  obtain rfl : i = R.length := by have := of_decide_eq_false h50; omega
  rw [List.take_length] at hO
  refine zg ?_
  exact y2 rfl rfl ⟨hl.keep, av, O, rfl, hO, hl.gr _ (List.mem_cons_self ..)⟩
end Go.Proofs.YtblhfojaiipboaaGreatDoor
namespace Go.Proofs.YtblhfojaiipboaaGreatDoor
open Go.Cm Go
set_option maxRecDepth 100000
variable {S : St}
noncomputable def cd58 : Code := Tryz.f58.body.getD .skip
theorem spec58 (a : Option Addr) (cap : Nat) (R : List Sg) (hF : Fresh S) (hn : R.length ≤ 27) (hR : RunP R) (hM : NoCM R) (hv : Sgs S (.slice a R.length cap) R) : CC Tryz.prog KK 58 [m2, .slice a R.length cap] S (fun v S' => Keep S S' ∧ v = tupV [.int .i64 1, .int .i64 1, .int .i64 0]) := by
 refine cc_enter (c := cd58) (n := 34) Tryz.func58 rfl rfl rfl (by kernel_rfl) rfl rfl ?_
 have hl := Hold.start S
 refine zg ?_; refine re_boxL hl rfl rfl rfl rfl rfl rfl ?_
 intro B2 S2 hl
 refine zg ?_
 refine zc hl rfl (spec78 a cap R (hl.keep.3 hF) hn hR (hv.move (hl.since 0 rfl))) ?_; rintro v S3 hk1 rfl hl
 refine zg ?_
 refine zc hl rfl (spec79 a cap R (hl.keep.3 hF) hn hR hM (hv.move (hl.since 0 rfl))) ?_; rintro v S4 hk2 rfl hl
 refine zg ?_
 exact done_ret (ress_tmp rfl (ress_tmp rfl (ress_tmp rfl rfl))) ⟨hl.keep, rfl⟩
noncomputable def cd47 : Code := Tryz.f47.body.getD .skip
theorem spec47 (a : Option Addr) (cap : Nat) (R : List Sg) (hF : Fresh S) (hn : R.length ≤ 27) (hR : RunP R) (hM : NoCM R) (hv : Sgs S (.slice a R.length cap) R) : CC Tryz.prog KK 47 [m2, .slice a R.length cap] S (fun v S' => Keep S S' ∧ v = tupV [.int .i64 1, .int .i64 0]) := by
 refine cc_enter (c := cd47) (n := 20) Tryz.func47 rfl rfl rfl (by kernel_rfl) rfl rfl ?_
 have hl := Hold.start S
 refine zg ?_; refine re_boxL hl rfl rfl rfl rfl rfl rfl ?_
 intro B2 S2 hl
 refine zg ?_
 refine zc hl rfl (spec58 a cap R (hl.keep.3 hF) hn hR hM (hv.move (hl.since 0 rfl))) ?_; rintro v S3 hk1 rfl hl
 refine zg ?_
 exact y2 rfl rfl ⟨hl.keep, rfl⟩
noncomputable def cd41 : Code := Tryz.f41.body.getD .skip
theorem spec41 (a : Option Addr) (cap : Nat) (R : List Sg) (hF : Fresh S) (hn : R.length ≤ 27) (hR : RunP R) (hM : NoCM R) (hv : Sgs S (.slice a R.length cap) R) : CC Tryz.prog KK 41 [m2, .slice a R.length cap] S (fun v S' => Keep S S' ∧ v = tupV [.int .i64 1, .int .i64 0]) := by
 refine cc_enter (c := cd41) (n := 11) Tryz.func41 rfl rfl rfl (by kernel_rfl) rfl rfl ?_
 have hl := Hold.start S
 refine zg ?_; refine re_boxL hl rfl rfl rfl rfl rfl rfl ?_
 intro B2 S2 hl
 refine zg ?_
 refine zc hl rfl (spec47 a cap R (hl.keep.3 hF) hn hR hM (hv.move (hl.since 0 rfl))) ?_; rintro v S3 hk1 rfl hl
 refine zg ?_
 exact y2 rfl rfl ⟨hl.keep, rfl⟩
def os (n : Nat) : List Int := List.replicate n 1
theorem os_len (n : Nat) : (os n).length = n := List.length_replicate
theorem ic_flat_all : ∀ (C : List Int), ((C.map ic).flatten).all cellV = true := flatCells fun _ => rfl
noncomputable def cd59 : Code := Tryz.f59.body.getD .skip
theorem spec59 : ∀ (k : Nat) (a : Option Addr) (cap : Nat) {S : St}, Fresh S → k ≤ 100 → Ints S (.slice a k cap) (os k) → CC Tryz.prog KK 59 [.int .i64 0, .slice a k cap] S (fun v S' => Keep S S' ∧ ∃ av, v = tupV [.slice av k k, .int .i64 0] ∧ Grow S S' ⟨.slice av k k, 3, 1, ((zs k).map ic).flatten, k⟩)
 | 0, a, cap, S, hF, hk, hv => by
  refine cc_enter (c := cd59) (n := 32) Tryz.func59 rfl rfl rfl (by kernel_rfl) rfl rfl ?_
  have hl := Hold.start S
  refine zg ?_
  exact z2 rfl rfl ⟨hl.keep, none, rfl, .inl ⟨rfl, rfl, rfl⟩⟩
 | k + 1, a, cap, S, hF, hk, hv => by
  refine cc_enter (c := cd59) (n := 32) Tryz.func59 rfl rfl rfl (by kernel_rfl) rfl rfl ?_
  have hl := Hold.start S
  refine zg ?_
  obtain ⟨a2, c2, hs, hv2⟩ := hv.rest (t := 22) (k := 1) (hl.since 0 rfl) Tryz.underlying22 (by kernel_rfl) (by rw [os_len]; omega)
  rw [show (os (k + 1)).drop 1 = os k from rfl, os_len] at hs hv2
  obtain ⟨b1, o1, cs1, ha, _, hrow, htk⟩ := hv.elem (k := 0) (x := 1) rfl
  refine rr rfl (rd_slice rfl rfl rfl rfl rfl hs) ?_
  refine zc hl rfl (spec59 k a2 c2 hF (by omega) hv2) ?_; rintro v S1 hk1 ⟨av, rfl, hg⟩ hl
  have hI : sourceCells S1 1 k (.slice av k k) = some (((zs k).map ic).flatten) := by
   have h := (Grow.ls (f := ic) (C := zs k) (v := .slice av (zs k).length (zs k).length) (fun _ => rfl) (by rw [zs_len]; unfold gOf; rw [zs_len]; exact hg)).cells
   rw [zs_len] at h
   exact h
  have hl := hl.mark
  refine zg ?_; refine xp_draw (idx := [0, 1, 2, 3, 4, 5, 6, 8, 9, 10, 11, 12, 7, 13, 14]) rfl (by kernel_rfl) (by kernel_rfl) ?_; refine zg ?_; refine rp_buildSliceG hF hl 1 rfl rfl rfl rfl rfl Tryz.underlying22 rfl (c := [.int .i64 0]) (by kernel_rfl) rfl ?_; intro B24 v24 S2 hl
  obtain ⟨a24, rfl⟩ : ∃ x, v24 = .slice x 1 1 := Grow.is (hl.gr _ (List.mem_cons_self ..))
  refine zg ?_
  have hI2 : sourceCells S2 1 k (.slice av k k) = some (((zs k).map ic).flatten) := by
   have h := ((Grow.ls (f := ic) (C := zs k) (v := .slice av (zs k).length (zs k).length) (fun _ => rfl) (by rw [zs_len]; unfold gOf; rw [zs_len]; exact hg)).move (hl.since 0 rfl)).cells
   rw [zs_len] at h
   exact h
  refine rp_appendG hl 0 rfl rfl (by simp) rfl rfl rfl rfl rfl rfl rfl Tryz.underlying22 Tryz.underlying22 rfl rfl (by kernel_rfl) hI2 ((flat_len (f := ic) (z := 1) (fun _ => rfl) _).trans (by rw [zs_len])) (ic_flat_all _) (by kernel_rfl) (by show 1 + k ≤ maxNeed; unfold maxNeed; omega) ?_; intro v26 S3 hl; refine ⟨zt, ?_⟩
  obtain ⟨a26, rfl⟩ : ∃ x, v26 = .slice x (1 + k) (1 + k) := Grow.is (hl.gr _ (List.mem_cons_self ..))
  rw [Nat.add_comm 1 k] at hl ⊢
  refine zg ?_
  exact y2 rfl rfl ⟨hl.keep, a26, rfl, hl.gr _ (List.mem_cons_self ..)⟩
end Go.Proofs.YtblhfojaiipboaaGreatDoor
namespace Go.Proofs.YtblhfojaiipboaaGreatDoor
open Go.Cm Go
set_option maxRecDepth 100000
variable {S : St}
noncomputable def cd48 : Code := Tryz.f48.body.getD .skip
theorem spec48 (a : Option Addr) (cap : Nat) (R : List Sg) (hF : Fresh S) (hn : R.length ≤ 27) (hR : RunP R) (hM : NoCM R) (hv : Sgs S (.slice a R.length cap) R) : CC Tryz.prog KK 48 [m2, .slice a R.length cap, .int .i64 0] S (fun v S' => Keep S S' ∧ ∃ ad n, v = tupV [.slice ad n n, .slice none 0 0, .int .i64 0] ∧ n = kt R ∧ Ints S' (.slice ad n n) (zs n)) := by
 refine cc_enter (c := cd48) (n := 67) Tryz.func48 rfl rfl rfl (by kernel_rfl) rfl rfl ?_
 have hl := Hold.start S
 refine zg ?_; refine re_boxL hl rfl rfl rfl rfl rfl rfl ?_
 intro B3 S2 hl
 refine zg ?_
 refine zc hl rfl (spec58 a cap R (hl.keep.3 hF) hn hR hM (hv.move (hl.since 0 rfl))) ?_; rintro v S3 hk1 rfl hl
 refine zg ?_; refine re_buildSliceR hl rfl rfl rfl rfl rfl Tryz.underlying22 rfl (c := [.int .i64 1, .int .i64 1]) (by kernel_rfl) ?_; intro B37 S4 hr37 hl
 refine zc hl rfl (spec59 2 (some ⟨B37, 0, none⟩) 2 (hl.keep.3 hF) (by decide) (LsOf.row (f := ic) (C := [1, 1]) (fun _ => rfl) hr37 rfl)) ?_; rintro v S5 hk2 ⟨ak, rfl, hg⟩ hl
 have hI : Ints S5 (.slice ak 2 2) [0, 0] := Grow.ls (f := ic) (C := [0, 0]) (v := .slice ak 2 2) (fun _ => rfl) hg
 obtain ⟨b1, o1, cs1, ha, _, hrow, htk⟩ := hI.elem (k := 0) (x := 0) rfl
 have hl := hl.mark
 refine zg ?_; refine xp_draw (idx := [0, 1, 2, 3, 4, 5, 6, 7, 8, 9, 10]) rfl (by kernel_rfl) (by kernel_rfl) ?_; refine zg ?_
 refine zp hl rfl (spec60 a cap R (hl.keep.3 hF) hn hR (hv.move (hl.since 1 rfl))) ?_; rintro v S6 hk3 ⟨ad, rfl, hz⟩ hl; refine ⟨zt, ?_⟩
 have hl := hl.mark
 refine zg ?_
 obtain ⟨b2, o2, cs2, ha2, _, hrow2, htk2⟩ := hI.elem (k := 1) (x := 0) rfl
 refine xp_draw (idx := [0, 1, 2, 3, 4, 5, 6, 7, 8, 9, 10]) rfl (by kernel_rfl) (by kernel_rfl) ?_; refine zg ?_
 refine zp hl rfl (spec61 a cap R (hl.keep.3 hF) hn hR hM (hv.move (hl.since 2 rfl))) ?_; rintro v S7 hk4 rfl hl; refine ⟨zt, ?_⟩
 refine zg ?_
 exact done_ret (ress_tmp rfl (ress_tmp rfl (ress_tmp rfl rfl))) ⟨hl.keep, ad, _, rfl, dtE_kt R, hz.move (hl.since 0 rfl)⟩
end Go.Proofs.YtblhfojaiipboaaGreatDoor
namespace Go.Proofs.YtblhfojaiipboaaGreatDoor
open Go.Cm Go
set_option maxRecDepth 100000
variable {S : St}
structure Rd where
 dots : Value
 minor : Value
 choices : Value
 durs : Value
def Rd.cells (r : Rd) : List Value := [r.dots, r.minor, r.choices, r.durs]
def Rd.v (r : Rd) : Value := aggL r.cells
abbrev gD (av : Option Addr) (O : List Rd) : Gr := gOf 87 4 Rd.cells (.slice av O.length O.length) O
theorem clone_z (ad : Option Addr) (n : Nat) (hn : n ≤ 400) (hv : Ints S (.slice ad n n) (zs n)) : CC Tryz.prog KK 52 [.slice ad n n] S (fun v S' => Keep S S' ∧ ∃ av, v = .slice av n n) := by
 have h := spec52 (S := S) ad n (zs n) (by rw [zs_len]; exact hn) (by rw [zs_len]; exact hv)
 rw [zs_len] at h
 exact cc_mono h fun v S' ⟨h1, av, h2, _⟩ => ⟨h1, av, h2⟩
theorem clone_n : CC Tryz.prog KK 52 [.slice none 0 0] S (fun v S' => Keep S S' ∧ ∃ av, v = .slice av 0 0) :=
 cc_mono (spec52 (S := S) none 0 [] (by decide) LsOf.nil) fun v S' ⟨h1, av, h2, _⟩ => ⟨h1, av, h2⟩
def OneR (R : List Sg) (S0 S : St) (v : Value) : Prop := ∃ av r aT OT, v = .slice av 1 1 ∧ (∃ a1 n1 a2 n2 a3 n3, r = ⟨.slice a1 n1 n1, .slice a2 n2 n2, .slice a3 n3 n3, .slice aT OT.length OT.length⟩) ∧ OT.length = ct R ∧ Grow S0 S (gT aT OT) ∧ Grow S0 S (gD av [r])
noncomputable def cd42 : Code := Tryz.f42.body.getD .skip
theorem spec42 (a : Option Addr) (cap : Nat) (R : List Sg) (hGh : Gh S) (hF : Fresh S) (hn : R.length ≤ 27) (hR : RunP R) (hM : NoCM R) (hv : Sgs S (.slice a R.length cap) R) : CC Tryz.prog KK 42 [m2, .slice a R.length cap, .int .i64 0] S (fun v S' => Keep S S' ∧ ∃ w, v = tupV [w, .int .i64 0] ∧ OneR R S S' w) := by
 refine cc_enter (c := cd42) (n := 89) Tryz.func42 rfl rfl rfl (by kernel_rfl) rfl rfl ?_
 have hl := Hold.start S
 refine zg ?_; refine re_boxL hl rfl rfl rfl rfl rfl rfl ?_
 intro B3 S2 hl
 refine zg ?_
 refine zc hl rfl (spec48 a cap R (hl.keep.3 hF) hn hR hM (hv.move (hl.since 0 rfl))) ?_; rintro v S3 hk1 ⟨ad, n, rfl, hnk, hz⟩ hl
 have hl := hl.mark
 have hn27 := kt_len R
 refine zg ?_
 refine zc hl rfl (spec49 a cap R ad n (hl.keep.3 hF) (hGh.keep hl.keep) hn hR hM (hv.move (hl.since 1 rfl)) hnk (hz.move (hl.since 0 rfl))) ?_; rintro v S4 hk2 ⟨ai, OI, rfl, hOI, hgI⟩ hl
 have hIt : Its S4 (.slice ai OI.length OI.length) OI := Grow.ls (f := It.cells) (fun _ => rfl) hgI
 have hcR := ct_len R
 have hl := hl.mark
 refine zg ?_
 refine zc hl rfl kLevels ?_; rintro v S5 hk3 rfl hl
 refine zg ?_; refine rr rfl (rd_build rfl rfl (v := aggL [.slice ai OI.length OI.length, .slice none 0 0, .slice none 0 0]) (by rfl)) ?_; refine re_buildSliceR hl rfl rfl rfl rfl rfl Tryz.underlying118 rfl (c := [.slice ai OI.length OI.length, .slice none 0 0, .slice none 0 0]) (by kernel_rfl) ?_; intro B49 S6 hr49 hl
 have hPa : LsOf 117 3 (fun _ : Unit => [.slice ai OI.length OI.length, .slice none 0 0, .slice none 0 0]) S6 (.slice (some ⟨B49, 0, none⟩) 1 1) [()] := LsOf.row (fun _ => rfl) hr49 rfl
 obtain ⟨b1, o1, cs1, ha, _, hrow, htk⟩ := hPa.elem (k := 0) (x := ()) rfl
 have hl := hl.mark
 refine zg ?_; refine xe_sub (L' := [(52, .int .i64 0), (51, .int .i64 0), (50, .slice none 0 0), (14, .slice (some ⟨B49, 0, none⟩) 1 1), (9, .slice none 0 0), (8, .slice ad n n)]) ⟨rfl, rfl, rfl, rfl, rfl, rfl, trivial⟩ ?_
 refine xp_loop rfl (fun m Le S' => SubE [(52, .int .i64 0), (51, .int .i64 0), (50, .slice none 0 0), (14, .slice (some ⟨B49, 0, none⟩) 1 1), (9, .slice none 0 0), (8, .slice ad n n)] Le ∧ HoldG S [S6, S4, S3, S] S' [(B3, .cells (cellsL m2) 28 false true [])] []) ?_ (m := 0) ⟨⟨rfl, rfl, rfl, rfl, rfl, rfl, trivial⟩, hl⟩
 clear hl; rintro m Le S' ⟨hsub, hl⟩; refine xe_sub hsub ?_
 refine zg ?_; refine xe_sub (L' := [(69, .int .i64 (0 : Int)), (68, .int .i64 1), (67, .slice (some ⟨B49, 0, none⟩) 1 1), (17, .slice none 0 0), (9, .slice none 0 0), (8, .slice ad n n)]) ⟨rfl, rfl, rfl, rfl, rfl, rfl, trivial⟩ ?_
 refine xp_loop rfl (fun m Le S' => ∃ (i : Nat) (W : Value), i ≤ 1 ∧ m = 1 - i ∧ SubE [(69, .int .i64 (i : Int)), (68, .int .i64 1), (67, .slice (some ⟨B49, 0, none⟩) 1 1), (17, W), (9, .slice none 0 0), (8, .slice ad n n)] Le ∧ HoldG S [S6, S4, S3, S] S' [(B3, .cells (cellsL m2) 28 false true [])] [] ∧ ((i = 0 ∧ W = .slice none 0 0) ∨ (i = 1 ∧ OneR R S S' W))) ?_ (m := 1) ⟨0, _, by omega, by omega, ⟨rfl, rfl, rfl, rfl, rfl, rfl, trivial⟩, hl, .inl ⟨rfl, rfl⟩⟩
 clear hl; rintro m Le S' ⟨i, W, hi, rfl, hsub, hl, hW⟩; refine xe_sub hsub ?_
 rcases hW with ⟨rfl, rfl⟩ | ⟨rfl, hW⟩
 ·
  refine zg ?_; refine re_allocL hl rfl rfl rfl rfl rfl (z := [.slice none 0 0, .slice none 0 0, .slice none 0 0]) (by kernel_rfl) ?_
  intro B19 S7 hl
  refine re_storeL hl 0 rfl rfl rfl rfl rfl rfl rfl (by kernel_rfl) (c' := [.slice ai OI.length OI.length, .slice none 0 0, .slice none 0 0]) rfl ?_
  intro S8 hl
  refine zg ?_; refine xp_draw (idx := [0, 1, 3, 5, 6, 8, 9, 2, 4, 7, 10, 11, 12, 13, 14]) rfl (by kernel_rfl) (by kernel_rfl) ?_; refine zg ?_
  refine zp hl rfl (clone_z ad n (by omega) (hz.move (hl.since 2 rfl))) ?_; rintro v S9 hk4 ⟨a1, rfl⟩ hl; refine ⟨zt, ?_⟩
  refine zp hl rfl clone_n ?_; rintro v S10 hk5 ⟨a2, rfl⟩ hl; refine ⟨zt, ?_⟩
  refine zp hl rfl clone_n ?_; rintro v S11 hk6 ⟨a3, rfl⟩ hl; refine ⟨zt, ?_⟩
  have hl11 := hl
  refine zp hl rfl (spec53 ai OI.length OI (by omega) (hIt.move (hl.since 1 rfl))) ?_; rintro v S12 hk7 ⟨aT, OT, rfl, hOT, hgT⟩ hl; refine ⟨zt, ?_⟩
  have hgT := Grow.base hgT hl11.keep.1
  have hl := hl.addG hgT
  have hl := hl.addG (g := gD none []) (.inl ⟨rfl, rfl, rfl⟩)
  refine pr rfl (rd_build rfl rfl (v := (Rd.mk (.slice a1 n n) (.slice a2 0 0) (.slice a3 0 0) (.slice aT OT.length OT.length)).v) (by rfl)) ?_; refine rp_buildSliceR hF hl rfl rfl rfl rfl rfl Tryz.underlying81 rfl (c := (Rd.mk (.slice a1 n n) (.slice a2 0 0) (.slice a3 0 0) (.slice aT OT.length OT.length)).cells) (by kernel_rfl) ?_; intro B85 S13 hg85 hr85 hl
  refine rp_appendG hl 0 rfl rfl (show ([87, 65] : List TypeId).Nodup by decide) rfl rfl rfl rfl rfl rfl rfl Tryz.underlying81 Tryz.underlying81 rfl rfl (by kernel_rfl) (src_row (n := 1) (cap := 1) (new := (Rd.mk (.slice a1 n n) (.slice a2 0 0) (.slice a3 0 0) (.slice aT OT.length OT.length)).cells) hr85 rfl) rfl rfl (by kernel_rfl) (by show 0 + 1 ≤ maxNeed; unfold maxNeed; omega) ?_; intro v86 S14 hl; refine ⟨zt, ?_⟩
  obtain ⟨a86, rfl⟩ : ∃ x, v86 = .slice x 1 1 := Grow.is (hl.gr _ (List.mem_cons_self ..))
  refine zg ?_
  exact ⟨0, by omega, 1, _, by omega, by omega, ⟨rfl, rfl, rfl, rfl, rfl, rfl, trivial⟩, HoldG.mk hl.keep hl.tail.nd hl.tail.at_ hl.rk (fun g hg => (List.not_mem_nil hg).elim), .inr ⟨rfl, a86, _, aT, OT, rfl, ⟨_, _, _, _, _, _, rfl⟩, by rw [hOT, List.length_map, hOI], hl.gr _ (List.mem_cons_of_mem _ (List.mem_cons_self ..)), hl.gr _ (List.mem_cons_self ..)⟩⟩
 ·
  refine zg ?_
  exact y2 rfl rfl ⟨hl.keep, W, rfl, hW⟩
end Go.Proofs.YtblhfojaiipboaaGreatDoor
namespace Go.Proofs.YtblhfojaiipboaaGreatDoor
open Go.Cm Go
set_option maxRecDepth 100000
variable {S : St}
theorem Grow.own {α : Type} {f : α → List Value} {e : TypeId} {z : Nat} {S0 S1 S2 : St} {l : List (Nat × Blk)} {av : Option Addr} {C : List α} (hz : ∀ x, (f x).length = z) (hl : HoldG S0 [S0] S1 l []) (hk : Keep S1 S2) (hg : Grow S1 S2 (gOf e z f (.slice av C.length C.length) C)) :
  ∃ fr, HoldG S0 [S0] S2 (l ++ fr) [] ∧ ∀ {T : St} {Ts : List St} {l2 : List (Nat × Blk)} {gs : List Gr}, HoldG S0 Ts T l2 gs → (∀ p, p ∈ fr → p ∈ l2) → LsOf e z f T (.slice av C.length C.length) C := by
 rcases hg with ⟨h1, _, h3⟩ | ⟨b, kin, h1, h2, h3, h4, _⟩
 ·have h3 : C.length = 0 := h3
  have hC : C = [] := List.length_eq_zero_iff.1 h3
  subst hC
  have h1 : (Value.slice av 0 0) = .slice none 0 0 := h1
  refine ⟨[], by rw [List.append_nil]; exact hl.call hk, fun _ _ => ?_⟩
  show LsOf e z f _ (.slice av 0 0) []
  rw [h1]
  exact LsOf.nil
 ·have h1 : (Value.slice av C.length C.length) = .slice (some ⟨b, 0, none⟩) C.length C.length := h1
  have h4 : S2.get b = some (.cells ((C.map f).flatten) e true true kin) := h4
  have ha := (hl.call hk).add hl.below hl.keep h2 h3 h4
  refine ⟨[(b, .cells ((C.map f).flatten) e true true kin)], ha.perm (List.perm_append_singleton ..).symm, fun {T Ts l2 gs} hT hm => ?_⟩
  rw [h1]
  have hb := hT.at_ b _ (hm _ (List.mem_cons_self ..))
  exact LsOf.row hz ⟨hb.2.2, true, kin, hb.1⟩ rfl
noncomputable def cd33 : Code := Tryz.f33.body.getD .skip
theorem spec33 (a : Option Addr) (cap : Nat) (R : List Sg) (hGh : Gh S) (hF : Fresh S) (hn : R.length ≤ 27) (hR : RunP R) (hM : NoCM R) (hv : Sgs S (.slice a R.length cap) R) : CC Tryz.prog KK 33 [m2, .slice a R.length cap] S (fun v S' => Keep S S' ∧ ∃ w, v = tupV [w, .int .i64 0] ∧ OneR R S S' w) := by
 refine cc_enter (c := cd33) (n := 46) Tryz.func33 rfl rfl rfl (by kernel_rfl) rfl rfl ?_
 have hl := Hold.start S
 refine zg ?_; refine re_boxL hl rfl rfl rfl rfl rfl rfl ?_
 intro B2 S2 hl
 refine zg ?_
 refine zc hl rfl (spec41 a cap R (hl.keep.3 hF) hn hR hM (hv.move (hl.since 0 rfl))) ?_; rintro v S3 hk1 rfl hl
 refine zg ?_; refine xe_sub (L' := [(22, .int .i64 (0 : Int)), (21, .int .i64 1), (8, .slice none 0 0), (1, .slice a R.length cap), (2, ptrTo B2 0), (4, .slice none 0 0), (5, .int .i64 0)]) ⟨rfl, rfl, rfl, rfl, rfl, rfl, rfl, trivial⟩ ?_
 refine xp_loop rfl (fun m Le S' => ∃ (i : Nat) (W : Value), i ≤ 1 ∧ m = 1 - i ∧ SubE [(22, .int .i64 (i : Int)), (21, .int .i64 1), (8, W), (1, .slice a R.length cap), (2, ptrTo B2 0), (4, .slice none 0 0), (5, .int .i64 0)] Le ∧ HoldG S [S] S' [(B2, .cells (cellsL m2) 28 false true [])] [] ∧ ((i = 0 ∧ W = .slice none 0 0) ∨ (i = 1 ∧ OneR R S S' W))) ?_ (m := 1) ⟨0, _, by omega, by omega, ⟨rfl, rfl, rfl, rfl, rfl, rfl, rfl, trivial⟩, hl, .inl ⟨rfl, rfl⟩⟩
 clear hl; rintro m Le S' ⟨i, W, hi, rfl, hsub, hl, hW⟩; refine xe_sub hsub ?_
 rcases hW with ⟨rfl, rfl⟩ | ⟨rfl, hW⟩
 ·
  have hl4 := hl
  refine zg ?_
  refine zc hl rfl (spec42 a cap R (hGh.keep hl.keep) (hl.keep.3 hF) hn hR hM (hv.move (hl.since 0 rfl))) ?_; rintro v S4 hk2 ⟨w, rfl, av, r, aT, OT, rfl, hrd, hOT, hgT, hgD⟩ hl
  have hrs : LsOf 87 4 Rd.cells S4 (.slice av 1 1) [r] := Grow.ls (f := Rd.cells) (fun _ => rfl) hgD
  have hgT := Grow.base hgT hl4.keep.1
  have hl := (hl.addG hgT).addG (g := gD none []) (.inl ⟨rfl, rfl, rfl⟩)
  refine zg ?_; refine re_appendG hl 0 rfl rfl (show ([87, 65] : List TypeId).Nodup by decide) rfl rfl rfl rfl rfl rfl rfl Tryz.underlying81 Tryz.underlying81 rfl rfl (by kernel_rfl) hrs.cells rfl (by simp only [List.map_cons, List.map_nil, List.flatten_cons, List.flatten_nil, List.append_nil]; obtain ⟨_, _, _, _, _, _, rfl⟩ := hrd; rfl) (by kernel_rfl) (by show 0 + 1 ≤ maxNeed; unfold maxNeed; omega) ?_; intro v37 S5 hl
  obtain ⟨a37, rfl⟩ : ∃ x, v37 = .slice x 1 1 := Grow.is (hl.gr _ (List.mem_cons_self ..))
  refine zg ?_
  exact ⟨0, by omega, 1, _, by omega, by omega, ⟨rfl, rfl, rfl, rfl, rfl, rfl, rfl, trivial⟩, HoldG.mk hl.keep hl.nd hl.at_ hl.rk (fun g hg => (List.not_mem_nil hg).elim), .inr ⟨rfl, a37, r, aT, OT, rfl, hrd, hOT, hl.gr _ (List.mem_cons_of_mem _ (List.mem_cons_self ..)), hl.gr _ (List.mem_cons_self ..)⟩⟩
 ·
  obtain ⟨av, r, aT, OT, rfl, hrd, hOT, hgT, hgD⟩ := hW
  refine zg ?_
  exact y2 rfl rfl ⟨hl.keep, _, rfl, av, r, aT, OT, rfl, hrd, hOT, hgT, hgD⟩
end Go.Proofs.YtblhfojaiipboaaGreatDoor
namespace Go.Proofs.YtblhfojaiipboaaGreatDoor
open Go.Cm Go
set_option maxRecDepth 100000
variable {S : St}
def fs (n : Nat) : List Bool := List.replicate n false
theorem fs_len (n : Nat) : (fs n).length = n := List.length_replicate
theorem fs_flat : ∀ n, ((fs n).map bc).flatten = replL n [Value.bool false]
 | 0 => rfl
 | n + 1 => by
  show bc false ++ ((fs n).map bc).flatten = [Value.bool false] ++ replL n [Value.bool false]
  rw [fs_flat n]
  rfl
def ts (n : Nat) : List Bool := List.replicate n true
theorem ts_len (n : Nat) : (ts n).length = n := List.length_replicate
theorem ts_of {D : List Bool} {n : Nat} (hl : D.length = n) (h : ∀ j, j < n → nth D j = some true) : D = ts n := by
 subst hl
 refine List.eq_replicate_iff.2 ⟨rfl, fun x hx => ?_⟩
 obtain ⟨j, hj, rfl⟩ := List.getElem_of_mem hx
 have := h j hj
 rw [nth_eq, List.getElem?_eq_getElem hj] at this
 exact Option.some.inj this
theorem nth_bc {D : List Bool} {j : Nat} {x : Bool} (h : nth D j = some x) : nth ((D.map bc).flatten) j = some (.bool x) := by
 have h2 := flat_take (f := bc) (z := 1) (fun _ => rfl) h
 have := tk_nth (j := 0) h2 rfl
 rw [Nat.zero_add, Nat.mul_one, Nat.add_zero] at this
 exact this
theorem setN_bc {D : List Bool} {j : Nat} (y : Bool) (h : j < D.length) : setN j [Value.bool y] ((D.map bc).flatten) = some (((D.set j y).map bc).flatten) := setN_set (g := fun x => Value.bool x) y h
theorem nth_set {D : List Bool} {j k : Nat} {y : Bool} (h : j < D.length) : nth (D.set k y) j = if k = j then some y else nth D j := by
 rw [nth_eq, nth_eq, List.getElem?_set]
 by_cases e : k = j
 ·subst e
  simp [h]
 ·simp [e]
noncomputable def cd23 : Code := Tryz.f23.body.getD .skip
theorem spec23 (a : Option Addr) (cap : Nat) (R : List Sg) (hGh : Gh S) (hF : Fresh S) (hn : R.length ≤ 27) (hR : RunP R) (hM : NoCM R) (hv : Sgs S (.slice a R.length cap) R) : CC Tryz.prog KK 23 [m2, .slice a R.length cap] S (fun v S' => Keep S S' ∧ ∃ b n, v = tupV [.slice (some ⟨b, 0, none⟩) n n, .int .i64 0] ∧ n = ct R ∧ Bools S' (.slice (some ⟨b, 0, none⟩) n n) (ts n)) := by
 refine cc_enter (c := cd23) (n := 94) Tryz.func23 rfl rfl rfl (by kernel_rfl) rfl rfl ?_
 have hl := Hold.start S
 have hcR := ct_len R
 refine zg ?_; refine re_boxL hl rfl rfl rfl rfl rfl rfl ?_
 intro B2 S2 hl
 refine zA ?_; refine zS ?_; refine xp_seq rfl ?_; refine zS ?_; refine xp_block rfl ?_; refine xe_sub (L' := [(19, .int .i64 (0 : Int)), (18, .int .i64 R.length), (17, .slice a R.length cap), (6, .int .i64 (0 : Int)), (1, .slice a R.length cap), (2, ptrTo B2 0), (4, .slice none 0 0), (5, .int .i64 0)]) ⟨rfl, rfl, rfl, rfl, rfl, rfl, rfl, rfl, trivial⟩ ?_
 refine xp_loop rfl (fun m Le S' => ∃ (i n : Nat), i ≤ R.length ∧ m = R.length - i ∧ n = ct (R.take i) ∧ SubE [(19, .int .i64 (i : Int)), (18, .int .i64 R.length), (17, .slice a R.length cap), (6, .int .i64 (n : Int)), (1, .slice a R.length cap), (2, ptrTo B2 0), (4, .slice none 0 0), (5, .int .i64 0)] Le ∧ HoldG S [S] S' [(B2, .cells (cellsL m2) 28 false true [])] []) ?_ (m := R.length) ⟨0, 0, by omega, by omega, rfl, ⟨rfl, rfl, rfl, rfl, rfl, rfl, rfl, rfl, trivial⟩, hl⟩
 clear hl; rintro m Le S' ⟨i, n, hi, rfl, hni, hsub, hl⟩; refine xe_sub hsub ?_
 refine zg ?_
 constructor <;> intro h20
 ·
  have hlt : i < R.length := by have := of_decide_eq_true h20; omega
  have hCR := ct_le R i
  obtain ⟨s, hs⟩ := nth_some hlt
  obtain ⟨b1, o1, cs1, ha, _, hrow, htk⟩ := hv.elem hs
  refine zg ?_; refine re_allocL hl rfl rfl rfl rfl rfl (z := (dotS.cells.set 0 (.int .i64 0))) (by kernel_rfl) ?_
  intro B8 S8 hl
  refine re_storeL hl 0 rfl rfl rfl rfl rfl rfl rfl (by kernel_rfl) (c' := s.cells) rfl ?_
  intro S9 hl
  refine zg ?_
  constructor <;> intro h25
  ·
   have hk3 : (s.kind == 3) = false := by simpa using h25
   refine zg ?_
   exact ⟨R.length - (i + 1), by omega, i + 1, n + 1, by omega, rfl, by rw [(kt_2 hs hk3).2, hni], ⟨rfl, rfl, rfl, rfl, rfl, rfl, rfl, rfl, trivial⟩, hl.tail⟩
  ·
   have hk3 : (s.kind == 3) = true := by simpa using h25
   refine zg ?_
   exact ⟨R.length - (i + 1), by omega, i + 1, n, by omega, rfl, by rw [(kt_1 hs hk3).2, hni], ⟨rfl, rfl, rfl, rfl, rfl, rfl, rfl, rfl, trivial⟩, hl.tail⟩
 ·
  obtain rfl : i = R.length := by have := of_decide_eq_false h20; omega
  rw [List.take_length] at hni
  refine zg ?_; refine re_makeSliceK hl rfl rfl rfl rfl rfl rfl rfl rfl rfl Tryz.underlying49 (z := .bool false) (by kernel_rfl) (by kernel_rfl) (by unfold maxNeed; omega) ?_; intro B30 S10 hl
  have hl : HoldG S [S] S10 [(B30, .cells (((fs n).map bc).flatten) 4 true true []), (B2, .cells (cellsL m2) 28 false true [])] [] := by rw [fs_flat]; exact hl
  refine zg ?_
  have hl0 := hl
  refine re_call rfl rfl rfl rfl rfl rfl rfl (cc_mono (spec33 a cap R (hGh.keep hl.keep) (hl.keep.3 hF) hn hR hM (hv.move (hl.since 0 rfl))) ?_); rintro v S11 ⟨hk11, w, rfl, av, r, aT, OT, rfl, hrd, hOT, hgT, hgD⟩
  obtain ⟨fT, hl, hTi⟩ := Grow.own (f := Ti.cells) (fun _ => rfl) hl0 hk11 hgT
  have hrs : LsOf 87 4 Rd.cells S11 (.slice av 1 1) [r] := Grow.ls (f := Rd.cells) (fun _ => rfl) hgD
  have hl : HoldG S [S11, S] S11 ([(B30, .cells (((fs n).map bc).flatten) 4 true true []), (B2, .cells (cellsL m2) 28 false true [])] ++ ([] ++ fT)) [] := hl.mark
  refine zg ?_; refine xe_sub (L' := [(45, .int .i64 (0 : Int)), (44, .int .i64 1), (43, .slice av 1 1), (12, .slice none 0 0), (9, .slice (some ⟨B30, 0, none⟩) n n), (4, .slice none 0 0), (5, .int .i64 0)]) ⟨rfl, rfl, rfl, rfl, rfl, rfl, rfl, trivial⟩ ?_
  refine xp_loop rfl (fun m Le S' => ∃ (i : Nat) (w : Value) (W : List Value) (fW : List (Nat × Blk)), i ≤ 1 ∧ m = 1 - i ∧ W = (if i = 0 then [] else [.slice aT OT.length OT.length]) ∧ OW w 85 1 ((W.map wc).flatten) W.length fW ∧ SubE [(45, .int .i64 (i : Int)), (44, .int .i64 1), (43, .slice av 1 1), (12, w), (9, .slice (some ⟨B30, 0, none⟩) n n), (4, .slice none 0 0), (5, .int .i64 0)] Le ∧ HoldG S [S11, S] S' ([(B30, .cells (((fs n).map bc).flatten) 4 true true []), (B2, .cells (cellsL m2) 28 false true [])] ++ (fW ++ fT)) []) ?_ (m := 1) ⟨0, .slice none 0 0, [], [], by omega, by omega, rfl, .inl ⟨rfl, rfl, rfl, rfl⟩, ⟨rfl, rfl, rfl, rfl, rfl, rfl, rfl, trivial⟩, hl⟩
  clear hl; rintro m Le S' ⟨i, w, W, fW, hi, rfl, hW, hOW, hsub, hl⟩; refine xe_sub hsub ?_
  refine zg ?_
  constructor <;> intro h46
  ·
   obtain rfl : i = 0 := by have := of_decide_eq_true h46; omega
   obtain rfl : W = [] := hW
   obtain ⟨aw, rfl⟩ := hOW.is
   obtain ⟨b1, o1, cs1, ha, _, hrow, htk⟩ := hrs.elem (k := 0) (x := r) rfl
   obtain ⟨a1, n1, a2, n2, a3, n3, rfl⟩ := hrd
   refine zg ?_; refine re_allocL hl rfl rfl rfl rfl rfl (z := [.slice none 0 0, .slice none 0 0, .slice none 0 0, .slice none 0 0]) (by kernel_rfl) ?_
   intro B14 S12 hl
   refine re_storeL hl 0 rfl rfl rfl rfl rfl rfl rfl (by kernel_rfl) (c' := [.slice a1 n1 n1, .slice a2 n2 n2, .slice a3 n3 n3, .slice aT OT.length OT.length]) rfl ?_
   intro S13 hl
   refine zg ?_; refine re_buildSliceR hl rfl rfl rfl rfl rfl Tryz.underlying84 rfl (c := [.slice aT OT.length OT.length]) (by kernel_rfl) ?_; intro B52 S14 hr52 hl
   have hl : HoldG S [S11, S] S14 ([(B14, Blk.cells [.slice a1 n1 n1, .slice a2 n2 n2, .slice a3 n3 n3, .slice aT OT.length OT.length] 87 false true []), (B30, .cells (((fs n).map bc).flatten) 4 true true []), (B2, .cells (cellsL m2) 28 false true [])] ++ (fW ++ fT)) [] := hl
   refine re_appendW hl hOW rfl rfl rfl rfl rfl rfl rfl Tryz.underlying84 Tryz.underlying84 rfl rfl (by decide) (by kernel_rfl) (src_row (n := 1) (cap := 1) (new := [.slice aT OT.length OT.length]) hr52 rfl) rfl rfl (by kernel_rfl) (by show 0 + 1 ≤ maxNeed; unfold maxNeed; omega) ?_; intro w2 fW2 S15 hOW2 hl; refine zg ?_
   exact ⟨0, by omega, 1, w2, _, fW2, by omega, by omega, rfl, hOW2, ⟨rfl, rfl, rfl, rfl, rfl, rfl, rfl, trivial⟩, hl.tail⟩
  ·
   obtain rfl : i = 1 := by have := of_decide_eq_false h46; omega
   obtain rfl : W = [.slice aT OT.length OT.length] := hW
   obtain ⟨aW, rfl⟩ := hOW.is
   have hl := hl.marks (Us := [S]) fun T hT => List.mem_cons_of_mem _ hT
   have hn27 : n ≤ 27 := by omega
   refine zg ?_; refine xe_sub (L' := [(57, .int .i64 (0 : Int)), (56, .int .i64 n), (12, .slice aW 1 1), (9, .slice (some ⟨B30, 0, none⟩) n n), (4, .slice none 0 0), (5, .int .i64 0)]) ⟨rfl, rfl, rfl, rfl, rfl, rfl, trivial⟩ ?_
   refine xp_loop rfl (fun m Le S' => ∃ (i : Nat) (D : List Bool), i ≤ n ∧ m = n - i ∧ D.length = n ∧ (∀ j, j < i → nth D j = some true) ∧ SubE [(57, .int .i64 (i : Int)), (56, .int .i64 n), (12, .slice aW 1 1), (9, .slice (some ⟨B30, 0, none⟩) n n), (4, .slice none 0 0), (5, .int .i64 0)] Le ∧ HoldG S [S] S' ([(B30, .cells ((D.map bc).flatten) 4 true true []), (B2, .cells (cellsL m2) 28 false true [])] ++ (fW ++ fT)) []) ?_ (m := n) ⟨0, fs n, by omega, by omega, fs_len n, fun j hj => by omega, ⟨rfl, rfl, rfl, rfl, rfl, rfl, trivial⟩, hl⟩
   clear hl; rintro m Le S' ⟨i, D, hi, rfl, hD, hDt, hsub, hl⟩; refine xe_sub hsub ?_
   refine zg ?_
   constructor <;> intro h58
   ·
    have hlt : i < n := by have := of_decide_eq_true h58; omega
    refine zg ?_
    have ej : 0 + ((i : Int)).toNat * 1 = i := by simp
    rw [ej]
    refine re_storeR hl 0 rfl rfl rfl rfl rfl rfl rfl (by kernel_rfl) (setN_bc true (j := i) (by omega)) ?_
    intro S16 hl
    have hl : HoldG S [S] S16 ([(B30, .cells (((D.set i true).map bc).flatten) 4 true true []), (B2, .cells (cellsL m2) 28 false true [])] ++ (fW ++ fT)) [] := hl
    obtain ⟨t, ht⟩ := nth_some (l := OT) (i := i) (by omega)
    refine zg ?_
    have hset : ∀ j, j < i + 1 → nth (D.set i true) j = some true := fun j hj => by
     rw [nth_set (by omega)]
     by_cases e : i = j
     ·rw [if_pos e]
     ·rw [if_neg e]; exact hDt j (by omega)
    refine xe_sub (L' := [(65, .int .i64 (0 : Int)), (64, .int .i64 1), (15, .int .i64 (i : Int)), (57, .int .i64 (i : Int)), (56, .int .i64 n), (12, .slice aW 1 1), (9, .slice (some ⟨B30, 0, none⟩) n n), (4, .slice none 0 0), (5, .int .i64 0)]) ⟨rfl, rfl, rfl, rfl, rfl, rfl, rfl, rfl, rfl, trivial⟩ ?_
    refine xp_loop rfl (fun m Le S' => ∃ (k : Nat) (D2 : List Bool), k ≤ 1 ∧ m = 1 - k ∧ D2.length = n ∧ (∀ j, j < i + 1 → nth D2 j = some true) ∧ SubE [(65, .int .i64 (k : Int)), (64, .int .i64 1), (15, .int .i64 (i : Int)), (57, .int .i64 (i : Int)), (56, .int .i64 n), (12, .slice aW 1 1), (9, .slice (some ⟨B30, 0, none⟩) n n), (4, .slice none 0 0), (5, .int .i64 0)] Le ∧ HoldG S [S] S' ([(B30, .cells ((D2.map bc).flatten) 4 true true []), (B2, .cells (cellsL m2) 28 false true [])] ++ (fW ++ fT)) []) ?_ (m := 1) ⟨0, D.set i true, by omega, by omega, by rw [set_len, hD], hset, ⟨rfl, rfl, rfl, rfl, rfl, rfl, rfl, rfl, rfl, trivial⟩, hl⟩
    clear hl; rintro m Le S' ⟨k, D2, hk, rfl, hD2, hDt2, hsub, hl⟩; refine xe_sub hsub ?_
    refine zg ?_
    constructor <;> intro h66
    ·
     obtain rfl : k = 0 := by have := of_decide_eq_true h66; omega
     have hWl : LsOf 85 1 wc S' (.slice aW 1 1) [.slice aT OT.length OT.length] := OW.ls (f := wc) (C := [.slice aT OT.length OT.length]) (fun _ => rfl) hOW hl
     have hT2 := hTi hl (fun p hp => List.mem_append.2 (.inr (List.mem_append.2 (.inr hp))))
     obtain ⟨b1, o1, cs1, ha, _, hrow, htk⟩ := hWl.elem (k := 0) (x := .slice aT OT.length OT.length) rfl
     obtain ⟨b2, o2, cs2, ha2, _, hrow2, htk2⟩ := hT2.elem ht
     have hb := hl.at_ B30 _ (List.mem_cons_self ..)
     have hrow3 : RowAt S' B30 4 ((D2.map bc).flatten) := ⟨hb.2.2, true, [], hb.1⟩
     have hnb : nth ((D2.map bc).flatten) (0 + i * 1) = some (.bool true) := by rw [Nat.zero_add, Nat.mul_one]; exact nth_bc (hDt2 i (by omega))
     refine zg ?_; refine xp_draw (idx := [0, 1, 2, 3, 4, 5, 6, 7, 8, 9, 10, 11, 12, 13, 14, 15, 16, 17, 18, 19, 20, 21, 22, 23]) rfl (by kernel_rfl) (by kernel_rfl) ?_; refine zg ?_
     rw [show decide (t = t) = true from decide_eq_true rfl]
     have ej : 0 + ((i : Int)).toNat * 1 = i := by simp
     rw [ej]
     refine rp_storeR hl 0 rfl rfl rfl rfl rfl rfl rfl (by kernel_rfl) (setN_bc true (j := i) (by omega)) ?_; intro S17 hl; refine ⟨zt, ?_⟩
     have hl : HoldG S [S] S17 ([(B30, .cells (((D2.set i true).map bc).flatten) 4 true true []), (B2, .cells (cellsL m2) 28 false true [])] ++ (fW ++ fT)) [] := hl
     refine zg ?_
     exact ⟨0, by omega, 1, D2.set i true, by omega, by omega, by rw [set_len, hD2], (fun j hj => by
      rw [nth_set (by omega)]
      by_cases e : i = j
      ·rw [if_pos e]
      ·rw [if_neg e]; exact hDt2 j hj), ⟨rfl, rfl, rfl, rfl, rfl, rfl, rfl, rfl, rfl, trivial⟩, hl⟩
    ·
     obtain rfl : k = 1 := by have := of_decide_eq_false h66; omega
     refine zg ?_
     exact ⟨n - (i + 1), by omega, i + 1, D2, by omega, rfl, hD2, hDt2, ⟨rfl, rfl, rfl, rfl, rfl, rfl, trivial⟩, hl⟩
   ·
    obtain rfl : i = n := by have := of_decide_eq_false h58; omega
    obtain rfl := ts_of hD hDt
    refine zg ?_
    have hb := hl.at_ B30 _ (List.mem_cons_self ..)
    exact y2 rfl rfl ⟨hl.keep, B30, _, rfl, hni, LsOf.row (f := bc) (C := ts _) (fun _ => rfl) ⟨hb.2.2, true, [], hb.1⟩ (ts_len _).symm⟩
end Go.Proofs.YtblhfojaiipboaaGreatDoor
namespace Go.Proofs.YtblhfojaiipboaaGreatDoor
open Go.Cm Go
set_option maxRecDepth 100000
variable {S : St}
noncomputable def cd12 : Code := Tryz.f12.body.getD .skip
theorem spec12 (x : Bool) : CC Tryz.prog KK 12 [.bool x] S (fun v S' => Keep S S' ∧ v = .bool (!x)) := by
 refine cc_enter (c := cd12) (n := 5) Tryz.func12 rfl rfl rfl (by kernel_rfl) rfl rfl ?_
 have hl := Hold.start S
 refine zg ?_; refine rr rfl (rd_un rfl rfl rfl) ?_; refine zg ?_
 exact y1 rfl ⟨hl.keep, rfl⟩
noncomputable def cd11 : Code := Tryz.f11.body.getD .skip
theorem spec11 (a : Option Addr) (n cap : Nat) : CC Tryz.prog KK 11 [.slice a n cap, .func (.func 12) #[] #[]] S (fun v S' => Keep S S' ∧ ∃ B2 B3, v = .func (.func 24) #[] #[ptrTo B2 0, ptrTo B3 0] ∧ BxC S' B2 [.slice a n cap] 49 ∧ BxC S' B3 [.func (.func 12) #[] #[]] 50) := by
 refine cc_enter (c := cd11) (n := 6) Tryz.func11 rfl rfl rfl (by kernel_rfl) rfl rfl ?_
 have hl := Hold.start S
 refine zg ?_; refine re_boxL hl rfl rfl rfl rfl rfl rfl ?_
 intro B2 S1 hl
 refine re_boxL hl rfl rfl rfl rfl rfl rfl ?_
 intro B3 S2 hl
 refine zg ?_; refine rr rfl (rd_func rfl rfl rfl) ?_; refine zg ?_
 have h3 := hl.at_ _ _ (List.mem_cons_self ..)
 have h2 := hl.at_ _ _ (List.mem_cons_of_mem _ (List.mem_cons_self ..))
 refine y1 rfl ⟨hl.keep, B2, B3, rfl, ⟨h2.2.2, h2.1⟩, ⟨h3.2.2, h3.1⟩⟩
theorem nth_ts : ∀ {n j : Nat}, j < n → nth (ts n) j = some true
 | _ + 1, 0, _ => rfl
 | n + 1, j + 1, h => nth_ts (n := n) (j := j) (by omega)
noncomputable def cd24 : Code := Tryz.f24.body.getD .skip
theorem spec24 (y : Value) (B2 B3 : Nat) (a : Option Addr) (n cap : Nat) (hF : Fresh S) (hn : n ≤ 27) (hv : Bools S (.slice a n cap) (ts n)) (h2 : BxC S B2 [.slice a n cap] 49) (h3 : BxC S B3 [.func (.func 12) #[] #[]] 50) : CC Tryz.prog KK 24 [y, ptrTo B2 0, ptrTo B3 0] S (fun v S' => Keep S S' ∧ v = tupV []) := by
 refine cc_enter (c := cd24) (n := 42) Tryz.func24 rfl rfl rfl (by kernel_rfl) rfl rfl ?_
 have hl := Hold.start S
 refine zg ?_; refine xe_sub (L' := [(5, .int .i64 (0 : Int)), (4, .int .i64 (-1)), (0, y), (1, ptrTo B2 0), (2, ptrTo B3 0)]) ⟨rfl, rfl, rfl, rfl, rfl, trivial⟩ ?_
 refine xp_loop rfl (fun m Le S' => ∃ i : Nat, i ≤ n + 1 ∧ m = n + 1 - i ∧ SubE [(5, .int .i64 (i : Int)), (4, .int .i64 (-1)), (0, y), (1, ptrTo B2 0), (2, ptrTo B3 0)] Le ∧ HoldG S [S] S' [] []) ?_ (m := n + 1) ⟨0, by omega, by omega, ⟨rfl, rfl, rfl, rfl, rfl, trivial⟩, hl⟩
 clear hl; rintro m Le S' ⟨i, hi, rfl, hsub, hl⟩; refine xe_sub hsub ?_
 refine zg ?_; refine rr rfl (rd_load rfl rfl (l1 (h2.keep hl.keep).2 rfl)) ?_; refine zg ?_
 constructor <;> intro h10
 ·
  have hle : i ≤ n := by have := of_decide_eq_true h10; omega
  have g2 := (h2.keep hl.keep).2
  have g3 := (h3.keep hl.keep).2
  refine xp_skip rfl ?_; refine xp_seq rfl ?_; refine xp_block rfl ?_; refine xp_seq rfl (xe_toE hl 6 (.bool false) ?_ rfl ?_)
  ·
   refine xp_draw (idx := [0, 1, 2, 3, 4, 5, 6, 7, 8, 9, 10, 11, 12]) rfl (by kernel_rfl) (by kernel_rfl) ?_; refine zg ?_; refine pk rfl (rd_load rfl rfl (l1 g2 rfl)) ?_; refine zg ?_; refine rp_bool (d := 17) rfl (fun h17 => ?_) (fun h17 => ?_)
   ·
    have hlt : i < n := by have := of_decide_eq_true h17; omega
    obtain ⟨b1, o1, cs1, ha, _, hrow, htk⟩ := hv.elem (nth_ts hlt)
    refine zg ?_; refine pk rfl (rd_load rfl rfl (l1 g3 rfl)) ?_; refine pk rfl (rd_load rfl rfl (l1 g2 rfl)) ?_; refine zg ?_
    refine zp hl rfl (spec12 true) ?_; rintro v S4 hk4 rfl hl
    refine ⟨by repeat (first| exact trivial| refine stays_left ?_| (refine ⟨by first| exact sZ| exact kl tt (stays_load rfl rfl (l1 (h2.keep hl.keep).2 rfl) sQ rfl)| exact kl tt (stays_load rfl rfl (l1 (h3.keep hl.keep).2 rfl) (by kernel_rfl) rfl)| exact kl tt (stays_load rfl rfl qL sQ rfl)| exact stays_len rfl rfl rfl sQ rfl, ?_⟩)), ?_⟩
    refine zg ?_
    exact ⟨rfl, rfl, sB, hl⟩
   ·
    refine zg ?_
    exact ⟨rfl, rfl, sB, hl⟩
  intro S3 hl
  refine zg ?_; refine rr rfl (rd_un rfl rfl rfl) ?_; refine zg ?_
  exact ⟨n + 1 - (i + 1), by omega, i + 1, by omega, rfl, ⟨rfl, rfl, rfl, rfl, rfl, trivial⟩, hl⟩
 ·
  refine zg ?_
  show Done Tryz.prog Tryz.f24.results.toList (fun v S' => Keep S S' ∧ v = tupV []) .normal _ S'
  exact done_normal rfl ⟨hl.keep, rfl⟩
end Go.Proofs.YtblhfojaiipboaaGreatDoor
namespace Go.Proofs.YtblhfojaiipboaaGreatDoor
open Go.Cm Go
set_option maxRecDepth 100000
variable {S : St}
def Tz (S : St) (W : List Value) : Prop := ∀ w, w ∈ W → ∃ a n, w = .slice a n n ∧ n ≤ 27 ∧ Bools S (.slice a n n) (ts n)
theorem Tz.move {S T : St} {W : List Value} (h : RK S T) (hz : Tz S W) : Tz T W := fun w hw => by
 obtain ⟨a, n, e, hn, h2⟩ := hz w hw
 exact ⟨a, n, e, hn, h2.move h⟩
abbrev gB (av : Option Addr) (W : List Value) : Gr := gOf 49 1 wc (.slice av W.length W.length) W
abbrev gV (av : Option Addr) (W : List Value) : Gr := gOf 22 1 wc (.slice av W.length W.length) W
noncomputable def cd10 : Code := Tryz.f10.body.getD .skip
theorem spec10 (a : Option Addr) (cap : Nat) (C : List Sg) (hGh : Gh S) (hM : NoCM C) (hn : C.length ≤ 27) (hX : LnOk C) (hC : ∀ s, s ∈ C → one s = 0 ∧ s.kind ≠ 4) (hG : Gl S) (hGc : Gc S) (hF : Fresh S) (hv : Sgs S (.slice a C.length cap) C) : CC Tryz.prog KK 10 [aggL [.string partS, .slice a C.length cap]] S (fun v S' => Keep S S' ∧ ∃ aS W aA mA, v = tupV [.slice aS W.length W.length, .slice aA mA mA, .int .i64 0] ∧ W.length ≤ 28 ∧ Tz S' W ∧ Grow S S' (gB aS W)) := by
 refine cc_enter (c := cd10) (n := 82) Tryz.func10 rfl rfl rfl (by kernel_rfl) rfl rfl ?_
 have hl := Hold.start S
 refine zg ?_; refine re_boxL hl rfl rfl rfl rfl rfl rfl ?_
 intro B1 S1 hl
 refine zg ?_
 refine zc hl rfl (spec21 a cap C hn hX hC (hG.keep hl.keep) (hGc.keep hl.keep) (hl.keep.3 hF) (hv.move (hl.since 0 rfl))) ?_; rintro v S2 hk1 ⟨av, P, rfl, hPe, hP, hP28, hgP⟩ hl
 have hvP : LsOf 67 8 secC S2 (.slice av P.length P.length) P := Grow.ls (f := secC) (fun _ => rfl) hgP
 have hPl : P.length = (secL C).length := by rw [← hPe, List.length_map]
 have hl := hl.mark
 refine zg ?_
 have hl := (hl.addG (g := gB none []) (.inl ⟨rfl, rfl, rfl⟩)).addG (g := gV none []) (.inl ⟨rfl, rfl, rfl⟩)
 refine xe_sub (L' := [(28, .int .i64 (0 : Int)), (27, .int .i64 P.length), (26, .slice av P.length P.length), (8, .slice none ([] : List Value).length ([] : List Value).length), (7, .slice none ([] : List Value).length ([] : List Value).length), (1, ptrTo B1 0), (2, .slice none 0 0), (3, .slice none 0 0), (4, .int .i64 0)]) ⟨rfl, rfl, rfl, rfl, rfl, rfl, rfl, rfl, rfl, trivial⟩ ?_
 refine xp_loop rfl (fun m Le S' => ∃ (k : Nat) (aS aA : Option Addr) (W V : List Value), k ≤ P.length ∧ m = P.length - k ∧ W.length = k ∧ V.length = k ∧ Tz S' W ∧ SubE [(28, .int .i64 (k : Int)), (27, .int .i64 P.length), (26, .slice av P.length P.length), (8, .slice aA V.length V.length), (7, .slice aS W.length W.length), (1, ptrTo B1 0), (2, .slice none 0 0), (3, .slice none 0 0), (4, .int .i64 0)] Le ∧ HoldG S [S2, S] S' [(B1, .cells [.string partS, .slice a C.length cap] 25 false true [])] [gV aA V, gB aS W]) ?_ (m := P.length) ⟨0, none, none, [], [], by omega, by omega, rfl, rfl, (fun w hw => (List.not_mem_nil hw).elim), ⟨rfl, rfl, rfl, rfl, rfl, rfl, rfl, rfl, rfl, trivial⟩, hl⟩
 clear hl; rintro m Le Sk ⟨k, aS, aA, W, V, hk, rfl, hW, hV, hTz, hsub, hl⟩; refine xe_sub hsub ?_
 refine zg ?_
 constructor <;> intro h29
 ·
  have hlt : k < P.length := by have := of_decide_eq_true h29; omega
  obtain ⟨p, hp⟩ := nth_some hlt
  obtain ⟨b1, o1, cs1, ha, _, hrow, htk⟩ := hvP.elem hp
  have hl := hl.mark
  refine zg ?_; refine re_allocL hl rfl rfl rfl rfl rfl (z := [.int .i64 0, .int .i64 0, .int .i64 0, .int .i64 0, .int .i64 0, .int .i64 0, .int .i64 0, .int .i64 0]) (by kernel_rfl) ?_
  intro B10 S4 hl
  refine zg ?_; refine re_storeL hl 0 rfl rfl rfl rfl rfl rfl rfl (by kernel_rfl) (c' := secC p) rfl ?_
  intro S5 hl
  refine zg ?_
  refine zc hl rfl (spec22 a cap C k (by omega) hM hn hX hC (hG.keep hl.keep) (hGc.keep hl.keep) (hl.keep.3 hF) (hv.move (hl.since 2 rfl))) ?_; rintro v S6 hk6 ⟨ar, an, R, N, rfl, hR, hRM, hN, hR27, hgR, hgN⟩ hl
  have hvR : Sgs S6 (.slice ar R.length R.length) R := Grow.ls (f := Sg.cells) (fun _ => rfl) hgR
  have hvN : Ints S6 (.slice an N.length N.length) N := Grow.ls (f := ic) (fun _ => rfl) hgN
  have hl := hl.mark
  refine zg ?_
  refine zc hl rfl (spec23 ar R.length R (hGh.keep hl.keep) (hl.keep.3 hF) hR27 hR hRM (hvR.move (hl.since 0 rfl))) ?_; rintro v S7 hk7 ⟨bS, nS, rfl, hnS, hBo⟩ hl
  have hl := hl.mark
  refine zg ?_
  have hl := hl.addG (g := gN none []) (.inl ⟨rfl, rfl, rfl⟩)
  refine xe_sub (L' := [(55, .int .i64 (0 : Int)), (54, .int .i64 N.length), (53, .slice an N.length N.length), (15, .slice none ([] : List Int).length ([] : List Int).length), (14, .slice (some ⟨bS, 0, none⟩) nS nS), (11, .slice ar R.length R.length), (28, .int .i64 (k : Int)), (27, .int .i64 P.length), (26, .slice av P.length P.length), (8, .slice aA V.length V.length), (7, .slice aS W.length W.length), (1, ptrTo B1 0), (2, .slice none 0 0), (3, .slice none 0 0), (4, .int .i64 0)]) ⟨rfl, rfl, rfl, rfl, rfl, rfl, rfl, rfl, rfl, rfl, rfl, rfl, rfl, rfl, rfl, trivial⟩ ?_
  refine xp_loop rfl (fun m Le S' => ∃ (j : Nat) (aH : Option Addr) (H : List Int), j ≤ N.length ∧ m = N.length - j ∧ H.length ≤ j ∧ SubE [(55, .int .i64 (j : Int)), (54, .int .i64 N.length), (53, .slice an N.length N.length), (15, .slice aH H.length H.length), (14, .slice (some ⟨bS, 0, none⟩) nS nS), (11, .slice ar R.length R.length), (28, .int .i64 (k : Int)), (27, .int .i64 P.length), (26, .slice av P.length P.length), (8, .slice aA V.length V.length), (7, .slice aS W.length W.length), (1, ptrTo B1 0), (2, .slice none 0 0), (3, .slice none 0 0), (4, .int .i64 0)] Le ∧ HoldG S [S7, S6, Sk, S2, S] S' [(B10, .cells (secC p) 67 false true []), (B1, .cells [.string partS, .slice a C.length cap] 25 false true [])] (gN aH H :: [gV aA V, gB aS W])) ?_ (m := N.length) ⟨0, none, [], by omega, by omega, by simp, ⟨rfl, rfl, rfl, rfl, rfl, rfl, rfl, rfl, rfl, rfl, rfl, rfl, rfl, rfl, rfl, trivial⟩, hl⟩
  clear hl; rintro m Le S' ⟨j, aH, H, hj, rfl, hH, hsub, hl⟩; refine xe_sub hsub ?_
  refine zg ?_
  constructor <;> intro h56
  ·
   have hjl : j < N.length := by have := of_decide_eq_true h56; omega
   obtain ⟨x, hx⟩ := nth_some hjl
   obtain ⟨s, hs⟩ := nth_some (l := R) (i := j) (by omega)
   obtain ⟨b2, o2, cs2, ha2, _, hrow2, htk2⟩ := hvN.elem hx
   obtain ⟨b3, o3, cs3, ha3, _, hrow3, htk3⟩ := hvR.elem hs
   refine zg ?_
   constructor <;> intro h65
   ·
    refine zg ?_; refine re_buildSliceR hl rfl rfl rfl rfl rfl Tryz.underlying22 rfl (c := ic x) (by kernel_rfl) ?_; intro B68 S8 hr68 hl; refine re_appendG hl 0 rfl rfl (show ([3, 22, 49] : List TypeId).Nodup by decide) rfl rfl rfl rfl rfl rfl rfl Tryz.underlying22 Tryz.underlying22 rfl rfl (by kernel_rfl) (src_row (new := ic x) hr68 rfl) rfl rfl (by kernel_rfl) (by show H.length + 1 ≤ maxNeed; unfold maxNeed; omega) ?_; intro v69 S9 hl
    obtain ⟨aH2, rfl⟩ : ∃ x, v69 = .slice x (H.length + 1) (H.length + 1) := Grow.is (hl.gr _ (List.mem_cons_self ..))
    refine zg ?_
    refine ⟨N.length - (j + 1), by omega, j + 1, aH2, H ++ [x], by omega, rfl, by rw [List.length_append]; show H.length + 1 ≤ _; omega, ⟨rfl, rfl, rfl, congrArg some (congrArg (fun n => Value.slice aH2 n n) (by rw [List.length_append]; rfl)), rfl, rfl, rfl, rfl, rfl, rfl, rfl, rfl, rfl, rfl, rfl, trivial⟩, ?_⟩
    rw [gN, gOf_push]
    exact hl
   ·
    refine zg ?_
    exact ⟨N.length - (j + 1), by omega, j + 1, aH, H, by omega, rfl, by omega, ⟨rfl, rfl, rfl, rfl, rfl, rfl, rfl, rfl, rfl, rfl, rfl, rfl, rfl, rfl, rfl, trivial⟩, hl⟩
  ·
   refine zg ?_; refine re_buildSliceR hl rfl rfl rfl rfl rfl Tryz.underlying42 rfl (c := [.slice (some ⟨bS, 0, none⟩) nS nS]) (by kernel_rfl) ?_; intro B73 S8 hr73 hl; refine re_appendG hl 2 rfl rfl (show ([3, 22, 49] : List TypeId).Nodup by decide) rfl rfl rfl rfl rfl rfl rfl Tryz.underlying42 Tryz.underlying42 rfl rfl (by kernel_rfl) (src_row (new := [.slice (some ⟨bS, 0, none⟩) nS nS]) hr73 rfl) rfl rfl (by kernel_rfl) (by show W.length + 1 ≤ maxNeed; unfold maxNeed; omega) ?_; intro v74 S9 hl
   obtain ⟨aS2, rfl⟩ : ∃ x, v74 = .slice x (W.length + 1) (W.length + 1) := Grow.is (hl.gr _ (nth_mem (k := 2) rfl))
   refine zg ?_; refine re_buildSliceR hl rfl rfl rfl rfl rfl Tryz.underlying43 rfl (c := [.slice aH H.length H.length]) (by kernel_rfl) ?_; intro B77 S10 hr77 hl; refine re_appendG hl 1 rfl rfl (show ([3, 22, 49] : List TypeId).Nodup by decide) rfl rfl rfl rfl rfl rfl rfl Tryz.underlying43 Tryz.underlying43 rfl rfl (by kernel_rfl) (src_row (new := [.slice aH H.length H.length]) hr77 rfl) rfl rfl (by kernel_rfl) (by show V.length + 1 ≤ maxNeed; unfold maxNeed; omega) ?_; intro v78 S11 hl
   obtain ⟨aA2, rfl⟩ : ∃ x, v78 = .slice x (V.length + 1) (V.length + 1) := Grow.is (hl.gr _ (nth_mem (k := 1) rfl))
   refine zg ?_
   refine ⟨P.length - (k + 1), by omega, k + 1, aS2, aA2, W ++ [.slice (some ⟨bS, 0, none⟩) nS nS], V ++ [.slice aH H.length H.length], by omega, rfl, by rw [List.length_append, hW]; rfl, by rw [List.length_append, hV]; rfl, fun w hw => ?_, ⟨rfl, rfl, rfl, congrArg some (congrArg (fun n => Value.slice aA2 n n) (by rw [List.length_append]; rfl)), congrArg some (congrArg (fun n => Value.slice aS2 n n) (by rw [List.length_append]; rfl)), rfl, rfl, rfl, rfl, trivial⟩, ?_⟩
   ·rcases List.mem_append.1 hw with hw | hw
    ·exact (hTz.move (hl.since 2 rfl)) w hw
    ·exact ⟨_, nS, List.mem_singleton.1 hw, by have := ct_len R; omega, hBo.move (hl.since 0 rfl)⟩
   ·rw [gV, gB, gOf_push, gOf_push]
    exact ⟨hl.keep, hl.tail.nd, hl.tail.at_, fun T hT => hl.rk T (by simp only [List.mem_cons, List.not_mem_nil, or_false] at hT ⊢; rcases hT with h | h <;> simp [h]), fun g hg => hl.gr g (List.mem_cons_of_mem _ hg)⟩
 ·
  refine zg ?_
  exact done_ret (ress_tmp rfl (ress_tmp rfl (ress_tmp rfl rfl))) ⟨hl.keep, aS, W, aA, _, rfl, by omega, hTz, hl.gr _ (List.mem_cons_of_mem _ (List.mem_cons_self ..))⟩
end Go.Proofs.YtblhfojaiipboaaGreatDoor
namespace Go.Proofs.YtblhfojaiipboaaGreatDoor
open Go.Cm Go
set_option maxRecDepth 100000
variable {S : St}
theorem mem_nth {α : Type} : ∀ {l : List α} {x : α}, x ∈ l → ∃ i, nth l i = some x
 | y :: l, x, h => by
  rcases List.mem_cons.1 h with rfl | h
  ·exact ⟨0, rfl⟩
  ·obtain ⟨i, hi⟩ := mem_nth h
   exact ⟨i + 1, hi⟩
theorem putB_keep {b : Nat} {x y : Blk} {p : Nat × Blk} : ∀ {l : List (Nat × Blk)} {i : Nat}, nth l i = some (b, x) → p ∈ l → p.1 ≠ b → p ∈ putB i y l
 | q :: l, 0, hi, hp, hne => by
  have e : q = (b, x) := Option.some.inj hi
  rcases List.mem_cons.1 hp with h | h
  ·rw [h, e] at hne; exact absurd rfl hne
  ·cases q; exact List.mem_cons_of_mem _ h
 | q :: l, i + 1, hi, hp, hne => by
  have hr : p ∈ l → p ∈ putB i y l := fun h => putB_keep (y := y) (l := l) (i := i) hi h hne
  rcases List.mem_cons.1 hp with h | h
  ·rw [h]; cases q; exact List.mem_cons_self
  ·cases q; exact List.mem_cons_of_mem _ (hr h)
theorem tm_all {S0 : St} {Ts : List St} : ∀ (ks : List Nat) {S : St} {l : List (Nat × Blk)}, ks.Nodup → HoldG S0 Ts S l [] → (∀ k, k ∈ ks → (k, Blk.defs false) ∈ l) → ∃ S2 l2, takeMarks (ks.map markOf) S = some S2 ∧ HoldG S0 Ts S2 l2 [] ∧ ∀ p, p ∈ l → p.1 ∉ ks → p ∈ l2
 | [], S, l, _, hl, _ => ⟨S, l, rfl, hl, fun p hp _ => hp⟩
 | k :: ks, S, l, hn, hl, hm => by
  obtain ⟨i, hi⟩ := mem_nth (hm k (List.mem_cons_self ..))
  have hg := hl.get i hi
  have hn2 := List.nodup_cons.1 hn
  have hl2 := hl.put hi rfl (.defs true)
  obtain ⟨S2, l2, h1, h2, h3⟩ := tm_all ks hn2.2 hl2 (fun j hj => putB_keep hi (hm j (List.mem_cons_of_mem _ hj)) (fun e => hn2.1 (e ▸ hj)))
  refine ⟨S2, l2, ?_, h2, fun p hp hne => h3 p (putB_keep hi hp (fun e => hne (e ▸ List.mem_cons_self ..))) (fun hk => hne (List.mem_cons_of_mem _ hk))⟩
  show takeMarks (markOf k :: ks.map markOf) S = _
  unfold markOf takeMarks
  rw [hg]
  exact h1
theorem Tz.elem {S : St} {aS : Option Addr} {W : List Value} {k : Nat} (hk : k < W.length) (hz : Tz S W) (hW : LsOf 49 1 wc S (.slice aS W.length W.length) W) : ∃ a0 n b1 o1 cs1, n ≤ 27 ∧ Bools S (.slice a0 n n) (ts n) ∧ aS = some ⟨b1, o1, none⟩ ∧ RowAt S b1 49 cs1 ∧ takeN 1 (dropN (o1 + k * 1) cs1) = some [.slice a0 n n] := by
 obtain ⟨w, hw⟩ := nth_some hk
 obtain ⟨a0, n, rfl, hn, hi⟩ := hz w (nth_mem hw)
 obtain ⟨b1, o1, cs1, ha, _, hrow, htk⟩ := hW.elem hw
 exact ⟨a0, n, b1, o1, cs1, hn, hi, ha, hrow, htk⟩
noncomputable def cd5 : Code := Tryz.f5.body.getD .skip
theorem spec5 (a : Option Addr) (cap : Nat) (C : List Sg) (hGh : Gh S) (hM : NoCM C) (hn : C.length ≤ 27) (hX : LnOk C) (hC : ∀ s, s ∈ C → one s = 0 ∧ s.kind ≠ 4) (hG : Gl S) (hGc : Gc S) (hF : Fresh S) (hv : Sgs S (.slice a C.length cap) C) : CC Tryz.prog KK 5 [aggL [.string partS, .slice a C.length cap]] S (fun v S' => Keep S S' ∧ v = tupV [.slice none 0 0, .int .i64 0]) := by
 refine cc_enterM (c := cd5) (n := 53) Tryz.func5 rfl rfl rfl (by kernel_rfl) rfl rfl ?_
 have hl := Hold.start S
 refine xdp_seq rfl (xd_of_xe ?_); refine zg ?_; refine re_boxL hl rfl rfl rfl rfl rfl rfl ?_
 intro B1 S1 hl
 refine zg ?_; refine xdp_seq rfl (xd_of_xe ?_); refine zg ?_
 refine zc hl rfl (spec10 a cap C (hGh.keep hl.keep) hM hn hX hC (hG.keep hl.keep) (hGc.keep hl.keep) (hl.keep.3 hF) (hv.move (hl.since 0 rfl))) ?_; rintro v S2 hk1 ⟨aS, W, aA, mA, rfl, hW28, hTz, hgS⟩ hl
 have hW : LsOf 49 1 wc S2 (.slice aS W.length W.length) W := Grow.ls (f := wc) (fun _ => rfl) hgS
 have hl := hl.mark
 refine zg ?_; refine re_allocL hl rfl rfl rfl rfl rfl (z := [.slice none 0 0]) (by kernel_rfl) ?_
 intro B5 S3 hl
 refine zg ?_; refine re_storeL hl 0 rfl rfl rfl rfl rfl rfl rfl (by kernel_rfl) (c' := [.slice aA mA mA]) rfl ?_
 intro S4 hl
 refine zg ?_; refine xdp_seq rfl (xd_of_xe ?_); refine zg ?_; refine xdp_seq rfl (xd_of_xe ?_); refine zg ?_; refine re_allocL hl rfl rfl rfl rfl rfl (z := [.slice none 0 0]) (by kernel_rfl) ?_
 intro B7 S5 hl
 refine zg ?_; refine xdp_seq rfl ?_; refine xdp_seq rfl (xd_of_xe ?_); refine zg ?_; refine xdp_block rfl ?_
 have hl : HoldG S [S2, S] S5 ([(B7, Blk.cells [.slice none 0 0] 33 false true []), (B5, .cells [.slice aA mA mA] 43 false true []), (B1, .cells [.string partS, .slice a C.length cap] 25 false true [])] ++ []) [] := hl
 refine xd_sub (L' := [(22, .int .i64 (0 : Int)), (21, .int .i64 W.length), (7, ptrTo B7 0), (4, .slice aS W.length W.length), (2, .slice none 0 0), (3, .int .i64 0)]) ⟨rfl, rfl, rfl, rfl, rfl, rfl, trivial⟩ ?_
 refine xdp_loop rfl (fun m Le S' ds => ∃ (k : Nat) (rest : List (Nat × Blk)) (kz : List Nat), k ≤ W.length ∧ m = W.length - k ∧ ds = kz.map markOf ∧ (∀ j, j ∈ kz → (j, Blk.defs false) ∈ rest) ∧ kz.Nodup ∧ SubE [(22, .int .i64 (k : Int)), (21, .int .i64 W.length), (7, ptrTo B7 0), (4, .slice aS W.length W.length), (2, .slice none 0 0), (3, .int .i64 0)] Le ∧ HoldG S [S2, S] S' ([(B7, Blk.cells [.slice none 0 0] 33 false true []), (B5, .cells [.slice aA mA mA] 43 false true []), (B1, .cells [.string partS, .slice a C.length cap] 25 false true [])] ++ rest) []) ?_ (m := W.length) ⟨0, [], [], by omega, by omega, rfl, (fun j hj => (List.not_mem_nil hj).elim), List.nodup_nil, ⟨rfl, rfl, rfl, rfl, rfl, rfl, trivial⟩, hl⟩
 clear hl; rintro m Le Sk ds ⟨k, rest, kz, hk, rfl, rfl, hks, hnd, hsub, hl⟩; refine xd_sub hsub ?_
 refine xdp_seq rfl (xd_of_xe ?_); refine zg ?_; refine xdp_seq rfl (xd_of_xe ?_); refine zg ?_
 constructor <;> intro h23
 ·
  have hlt : k < W.length := by have := of_decide_eq_true h23; omega
  obtain ⟨a0, n, b1, o1, cs1, hn27, hBo, ha, hrow, htk⟩ := hTz.elem hlt hW
  refine zg ?_; refine xdp_seq rfl ?_; refine xdp_block rfl ?_; refine xdp_seq rfl (xd_of_xe ?_); refine zg ?_; refine re_allocL hl rfl rfl rfl rfl rfl (z := [.int .i64 0]) (by kernel_rfl) ?_
  intro B8 S6 hl
  refine re_storeL hl 0 rfl rfl rfl rfl rfl rfl rfl (by kernel_rfl) (c' := [.int .i64 (k : Int)]) rfl ?_
  intro S7 hl
  refine zg ?_; refine xdp_seq rfl (xd_of_xe ?_); refine zg ?_
  have hl0 := hl
  refine re_call rfl rfl rfl rfl rfl rfl rfl (cc_mono (spec11 a0 n n) ?_); rintro v S8 ⟨hk8, C2, C3, rfl, h2, h3⟩
  have hl := hl.call hk8
  refine zg ?_; refine xdp_block rfl (xd_rangeN (v0 := tupV []) hl rfl rfl rfl (by kernel_rfl) (fun T hT => spec24 _ C2 C3 a0 n n (hT.3 (hl.keep.3 hF)) hn27 ((hBo.move (hl.since 0 rfl)).move hT.rk) (h2.keep hT) (h3.keep hT)) ?_)
  intro S9 hl
  refine xd_of_xe ?_; refine zg ?_
  have hksn : S8.size ∉ kz := fun hm => by
   have h := (hl0.at_ _ _ (List.mem_cons_of_mem _ (List.mem_append.2 (.inr (hks _ hm))))).2.2
   have := hk8.1
   omega
  have hl : HoldG S [S2, S] S9 ([(B7, Blk.cells [.slice none 0 0] 33 false true []), (B5, .cells [.slice aA mA mA] 43 false true []), (B1, .cells [.string partS, .slice a C.length cap] 25 false true [])] ++ ((S8.size, Blk.defs false) :: rest)) [] := (hl.sub (l' := (S8.size, Blk.defs false) :: ([(B7, Blk.cells [.slice none 0 0] 33 false true []), (B5, .cells [.slice aA mA mA] 43 false true []), (B1, .cells [.string partS, .slice a C.length cap] 25 false true [])] ++ rest)) ((List.sublist_cons_self _ _).cons_cons _)).perm List.perm_middle.symm
  refine ⟨W.length - (k + 1), by omega, k + 1, _, S8.size :: kz, by omega, rfl, rfl, fun j hj => ?_, List.nodup_cons.2 ⟨hksn, hnd⟩, ⟨rfl, rfl, rfl, rfl, rfl, rfl, trivial⟩, hl⟩
  rcases List.mem_cons.1 hj with rfl | hj
  ·exact List.mem_cons_self ..
  ·exact List.mem_cons_of_mem _ (hks j hj)
 ·
  refine zg ?_; refine xdp_seq rfl (xd_of_xe ?_); refine zg ?_; refine xd_of_xe (xp_ret rfl ?_)
  obtain ⟨S9, l2, ht, hl2, _⟩ := tm_all kz hnd hl (fun j hj => List.mem_append.2 (.inr (hks j hj)))
  exact ⟨S9, _, ht, ress_tmp rfl (ress_tmp rfl rfl), hl2.keep, rfl⟩
end Go.Proofs.YtblhfojaiipboaaGreatDoor
namespace Go.Proofs.YtblhfojaiipboaaGreatDoor
open Go.Cm Go
set_option maxRecDepth 100000
variable {S : St}
def fixS (s : Sg) : Sg := bif s.color && (s.value == 5) then { s with value := 4 } else s
theorem setN_skip {a : Value} {z : List Value} {c : List Value} : ∀ (p : List Value) {k : Nat} {r : List Value}, setN k (a :: z) c = some r → setN (p.length + k) (a :: z) (p ++ c) = some (p ++ r)
 | [], k, r, h => by simpa using h
 | x :: p, k, r, h => by
  rw [show (x :: p).length + k = (p.length + k) + 1 by simp only [List.length_cons]; omega]
  have e := setN_skip p h
  simp only [List.cons_append, setN, e]
theorem setN_val (y : Int) : ∀ (D : List Sg) (i : Nat) (s : Sg), nth D i = some s → setN (i * 17 + 1) [.int .i64 y] ((D.map Sg.cells).flatten) = some (((D.set i { s with value := y }).map Sg.cells).flatten)
 | [], _, _, h => by cases h
 | x :: D, 0, s, h => by
  cases h
  show setN 1 [Value.int .i64 y] (Value.int .i64 x.kind :: Value.int .i64 x.value :: _) = _
  rw [setN_next, setN_one]
  rfl
 | x :: D, i + 1, s, h => by
  have e := setN_skip x.cells (setN_val y D i s h)
  rw [show x.cells.length + (i * 17 + 1) = (i + 1) * 17 + 1 by show 17 + (i * 17 + 1) = _; omega] at e
  exact e
theorem nth_setS {D : List Sg} {j k : Nat} {y : Sg} (h : j < D.length) : nth (D.set k y) j = if k = j then some y else nth D j := by
 rw [nth_eq, nth_eq, List.getElem?_set]
 by_cases e : k = j
 ·subst e
  simp [h]
 ·simp [e]
def Half (C D : List Sg) (i : Nat) : Prop := D.length = C.length ∧ (∀ j s, nth C j = some s → nth D j = some (if j < i then fixS s else s))
theorem Half.step {C D : List Sg} {i : Nat} {s : Sg} (h : Half C D i) (hs : nth C i = some s) : Half C (D.set i (fixS s)) (i + 1) := by
 refine ⟨by rw [List.length_set]; exact h.1, fun j u hu => ?_⟩
 have hj := nth_lt hu
 rw [nth_setS (by rw [h.1]; exact hj)]
 by_cases e : i = j
 ·subst e
  rw [if_pos rfl, if_pos (by omega)]
  rw [Option.some.inj (hs.symm.trans hu)]
 ·rw [if_neg e, h.2 j u hu]
  by_cases e2 : j < i
  ·rw [if_pos e2, if_pos (by omega)]
  ·rw [if_neg e2, if_neg (by omega)]
theorem Half.same {C D : List Sg} {i : Nat} {s : Sg} (h : Half C D i) (hs : nth C i = some s) (hf : fixS s = s) : Half C D (i + 1) := by
 refine ⟨h.1, fun j u hu => ?_⟩
 rw [h.2 j u hu]
 by_cases e : j < i
 ·rw [if_pos e, if_pos (by omega)]
 ·by_cases e2 : j = i
  ·subst e2
   rw [if_neg e, if_pos (by omega), ← Option.some.inj (hs.symm.trans hu), hf]
  ·rw [if_neg e, if_neg (by omega)]
theorem fix_ex {s : Sg} (h : EX s) : fixS s = s := by
 rcases h with rfl | rfl | rfl | ⟨n, _, rfl⟩ | ⟨b, rfl⟩ | rfl <;> rfl
theorem fix_nr {s : Sg} (h : NR s) : NR (fixS s) := by
 rcases h with ⟨v, p, c, hv, hp, rfl⟩ | ⟨v, hv, rfl⟩
 ·unfold fixS
  cases hc : ((noteS v p c).color && ((noteS v p c).value == 5)) with
  | true => exact .inl ⟨4, p, c, by omega, hp, rfl⟩
  | false => exact .inl ⟨v, p, c, hv, hp, rfl⟩
 ·exact .inr ⟨v, hv, rfl⟩
theorem fix_note {v p : Int} {c : Bool} (hv : 1 ≤ v ∧ v ≤ 8) : ∃ w, (1 ≤ w ∧ w ≤ 8) ∧ fixS (noteS v p c) = noteS w p c := by
 unfold fixS
 cases hc : ((noteS v p c).color && ((noteS v p c).value == 5)) with
 | true => exact ⟨4, by omega, rfl⟩
 | false => exact ⟨v, hv, rfl⟩
theorem fix_cm (s : Sg) (hc : (fixS s).color = true) : (fixS s).value ≠ 5 := by
 unfold fixS at *
 cases h : (s.color && (s.value == 5)) with
 | true => rw [h] at hc; show (4 : Int) ≠ 5; decide
 | false =>
  rw [h] at hc
  intro h5
  have hc : s.color = true := hc
  have h5 : s.value = 5 := h5
  rw [hc, h5] at h
  cases h
theorem half_nth {C D : List Sg} (h : Half C D C.length) {j : Nat} {u : Sg} (hu : nth D j = some u) : ∃ s, nth C j = some s ∧ u = fixS s := by
 obtain ⟨s, hs⟩ := nth_some (l := C) (i := j) (by rw [← h.1]; exact nth_lt hu)
 have := h.2 j s hs
 rw [if_pos (nth_lt hs), hu] at this
 exact ⟨s, hs, Option.some.inj this⟩
theorem half_ln {C D : List Sg} (h : Half C D C.length) (hC : LnOk C) : LnOk D := by
 have g : ∀ {j : Nat} {s : Sg}, nth C j = some s → nth D j = some (fixS s) := fun hs => by
  have := h.2 _ _ hs
  rw [if_pos (nth_lt hs)] at this
  exact this
 refine ⟨g hC.c0, g hC.c1, fun j u hu => ?_⟩
 obtain ⟨s, hs, rfl⟩ := half_nth h hu
 rcases hC.el j s hs with h2 | h2 | ⟨rfl, v, p, c, hv, hp, h3⟩
 ·exact .inl (fix_nr h2)
 ·exact .inr (.inl (by rw [fix_ex h2]; exact h2))
 ·obtain ⟨w, hw, e⟩ := fix_note (p := p) (c := c) hv
  exact .inr (.inr ⟨rfl, w, p, c, hw, hp, by rw [← e]; exact g h3⟩)
theorem half_cm {C D : List Sg} (h : Half C D C.length) : NoCM D := fun j u hu hc => by
 obtain ⟨s, _, rfl⟩ := half_nth h hu
 exact fix_cm s hc
theorem one_nr {s : Sg} (h : NR s) : one s = 0 ∧ s.kind ≠ 4 := by
 rcases h with ⟨v, p, c, hv, hp, rfl⟩ | ⟨v, hv, rfl⟩
 ·have key : ([(1, 0), (1, 1), (1, 2), (1, 3), (1, 4), (1, 5), (1, 6), (1, 7), (1, 8), (2, 0), (2, 1), (2, 2), (2, 3), (2, 4), (2, 5), (2, 6), (2, 7), (2, 8), (3, 0), (3, 1), (3, 2), (3, 3), (3, 4), (3, 5), (3, 6), (3, 7), (3, 8), (4, 0), (4, 1), (4, 2), (4, 3), (4, 4), (4, 5), (4, 6), (4, 7), (4, 8), (5, 0), (5, 1), (5, 2), (5, 3), (5, 4), (5, 5), (5, 6), (5, 7), (5, 8), (6, 0), (6, 1), (6, 2), (6, 3), (6, 4), (6, 5), (6, 6), (6, 7), (6, 8), (7, 0), (7, 1), (7, 2), (7, 3), (7, 4), (7, 5), (7, 6), (7, 7), (7, 8), (8, 0), (8, 1), (8, 2), (8, 3), (8, 4), (8, 5), (8, 6), (8, 7), (8, 8)] : List (Int × Int)).all (fun q => one (noteS q.1 q.2 true) == 0 && one (noteS q.1 q.2 false) == 0) = true := by kernel_rfl
  have hp9 : p = 0 ∨ p = 1 ∨ p = 2 ∨ p = 3 ∨ p = 4 ∨ p = 5 ∨ p = 6 ∨ p = 7 ∨ p = 8 := by omega
  have hm : (v, p) ∈ ([(1, 0), (1, 1), (1, 2), (1, 3), (1, 4), (1, 5), (1, 6), (1, 7), (1, 8), (2, 0), (2, 1), (2, 2), (2, 3), (2, 4), (2, 5), (2, 6), (2, 7), (2, 8), (3, 0), (3, 1), (3, 2), (3, 3), (3, 4), (3, 5), (3, 6), (3, 7), (3, 8), (4, 0), (4, 1), (4, 2), (4, 3), (4, 4), (4, 5), (4, 6), (4, 7), (4, 8), (5, 0), (5, 1), (5, 2), (5, 3), (5, 4), (5, 5), (5, 6), (5, 7), (5, 8), (6, 0), (6, 1), (6, 2), (6, 3), (6, 4), (6, 5), (6, 6), (6, 7), (6, 8), (7, 0), (7, 1), (7, 2), (7, 3), (7, 4), (7, 5), (7, 6), (7, 7), (7, 8), (8, 0), (8, 1), (8, 2), (8, 3), (8, 4), (8, 5), (8, 6), (8, 7), (8, 8)] : List (Int × Int)) := by
   rcases val8 hv with rfl | rfl | rfl | rfl | rfl | rfl | rfl | rfl <;> rcases hp9 with rfl | rfl | rfl | rfl | rfl | rfl | rfl | rfl | rfl <;> decide
  have := List.all_eq_true.1 key _ hm
  rw [Bool.and_eq_true] at this
  refine ⟨?_, by show (1 : Int) ≠ 4; decide⟩
  cases c with
  | true => simpa using this.1
  | false => simpa using this.2
 ·refine ⟨?_, by show (2 : Int) ≠ 4; decide⟩
  rcases val8 hv with rfl | rfl | rfl | rfl | rfl | rfl | rfl | rfl <;> kernel_rfl
theorem one_ex {s : Sg} (h : EX s) : one s = 0 ∧ s.kind ≠ 4 := by
 rcases h with rfl | rfl | rfl | ⟨n, hn, rfl⟩ | ⟨b, rfl⟩ | rfl
 ·exact ⟨by kernel_rfl, by decide⟩
 ·exact ⟨by kernel_rfl, by decide⟩
 ·exact ⟨by kernel_rfl, by decide⟩
 ·obtain rfl | rfl | rfl : n = 2 ∨ n = 3 ∨ n = 4 := by omega
  all_goals exact ⟨by kernel_rfl, by decide⟩
 ·cases b <;> exact ⟨by kernel_rfl, by decide⟩
 ·exact ⟨by kernel_rfl, by decide⟩
theorem ln_one {C : List Sg} (hC : LnOk C) : ∀ s, s ∈ C → one s = 0 ∧ s.kind ≠ 4 := fun s hs => by
 obtain ⟨j, hj, e⟩ := List.getElem_of_mem hs
 have hn : nth C j = some s := by rw [nth_eq, List.getElem?_eq_getElem hj, e]
 clear e hj hs
 match j, hn with
 | 0, hn => rw [← Option.some.inj (hC.c0.symm.trans hn)]; exact ⟨by kernel_rfl, by decide⟩
 | 1, hn => rw [← Option.some.inj (hC.c1.symm.trans hn)]; exact ⟨by kernel_rfl, by decide⟩
 | j + 2, hn =>
  rcases hC.el j _ hn with h2 | h2 | ⟨h2, _⟩
  ·exact one_nr h2
  ·exact one_ex h2
  ·rw [h2]; exact ⟨by kernel_rfl, by decide⟩
end Go.Proofs.YtblhfojaiipboaaGreatDoor
namespace Go.Proofs.YtblhfojaiipboaaGreatDoor
open Go.Cm Go
set_option maxRecDepth 100000
variable {S : St}
theorem kAwake : CC Tryz.prog KK 6 [] S fun w S' => Keep S S' ∧ w = .bool true := cc_known rfl
noncomputable def cd3 : Code := Tryz.f3.body.getD .skip
theorem spec3 (a : Option Addr) (cap : Nat) (L : List Int) (hF : Fresh S) (hG : Gl S) (hGc : Gc S) (hGh : Gh S) (hv : Ints S (.slice a L.length cap) L) : CC Tryz.prog KK 3 [.slice a L.length cap] S (fun v S' => Keep S S' ∧ v = .bool true) := by
 refine cc_enter (c := cd3) (n := 52) Tryz.func3 rfl rfl rfl (by kernel_rfl) rfl rfl ?_
 have hl := Hold.start S
 refine zg ?_; refine rr rfl (rd_build rfl rfl (v := m2) (by rfl)) ?_; refine zg ?_
 have hl0 := hl
 refine re_call rfl rfl rfl rfl rfl rfl rfl (cc_mono (spec4 a cap L hF hv) ?_); rintro v S1 ⟨_, aC, C, rfl, hC, hC27, fr, hO, hlC⟩
 have hl : HoldG S [S] S1 fr [] := hlC
 have hC0 := nth_lt hC.c0
 obtain ⟨bC, rfl⟩ := hO.ne hC0
 refine zg ?_; refine re_allocL hl rfl rfl rfl rfl rfl (z := [.string ⟨#[]⟩, .slice none 0 0]) (by kernel_rfl) ?_
 intro B3 S3 hl
 refine re_storeL hl 0 rfl rfl rfl rfl rfl rfl rfl (by kernel_rfl) (c' := [.string partS, .slice (some ⟨bC, 0, none⟩) C.length C.length]) rfl ?_
 intro S4 hl
 have hl : HoldG S [S] S4 ([(B3, .cells [.string partS, .slice (some ⟨bC, 0, none⟩) C.length C.length] 25 false true [])] ++ (fr ++ [])) [] := hl.perm (.of_eq (by rw [List.append_nil]; rfl))
 refine zg ?_; refine xe_sub (L' := [(4, .int .i64 (0 : Int)), (3, ptrTo B3 0), (2, .bool false)]) ⟨rfl, rfl, rfl, trivial⟩ ?_
 refine xp_loop rfl (fun m Le S' => ∃ (i : Nat) (D : List Sg) (fr : List (Nat × Blk)), i ≤ C.length ∧ m = C.length - i ∧ Half C D i ∧ OW (.slice (some ⟨bC, 0, none⟩) D.length D.length) 32 17 ((D.map Sg.cells).flatten) D.length fr ∧ SubE [(4, .int .i64 (i : Int)), (3, ptrTo B3 0), (2, .bool false)] Le ∧ HoldG S [S] S' ([(B3, .cells [.string partS, .slice (some ⟨bC, 0, none⟩) D.length D.length] 25 false true [])] ++ (fr ++ [])) []) ?_ (m := C.length) ⟨0, C, fr, by omega, by omega, ⟨rfl, fun j s hs => by rw [if_neg (by omega)]; exact hs⟩, hO, ⟨rfl, rfl, rfl, trivial⟩, hl⟩
 clear hl hO; rintro m Le S' ⟨i, D, fr, hi, rfl, hH, hO, hsub, hl⟩; refine xe_sub hsub ?_
 refine zg ?_
 constructor <;> intro h14
 ·
  have hlt : i < D.length := by have := of_decide_eq_true h14; omega
  obtain ⟨s, hs⟩ := nth_some (l := C) (i := i) (by rw [← hH.1]; exact hlt)
  have hD := hH.2 i s hs
  rw [if_neg (by omega)] at hD
  have hv2 : Sgs S' (.slice (some ⟨bC, 0, none⟩) D.length D.length) D := OW.ls (f := Sg.cells) (q := [(B3, .cells [.string partS, .slice (some ⟨bC, 0, none⟩) D.length D.length] 25 false true [])]) (l := []) (fun _ => rfl) hO hl
  obtain ⟨b1, o1, cs1, ha, _, hrow, htk⟩ := hv2.elem hD
  have hD1 := hH.1
  refine xp_skip rfl ?_; refine xp_seq rfl ?_; refine xp_block rfl ?_; refine xp_seq rfl (xe_toE hl 31 (.bool (s.color && (s.value == 5))) ?_ rfl ?_)
  ·
   refine zg ?_; refine re_bool (d := 23) rfl (fun h23 => ?_) (fun h23 => ?_)
   ·
    refine zg ?_
    exact ⟨rfl, bl (by rw [h23]; rfl), sB, hl⟩
   ·
    refine zg ?_
    exact ⟨rfl, bl (by rw [h23]; rfl), sB, hl⟩
  intro S5 hl
  refine zg ?_
  constructor <;> intro h31
  ·
   refine zg ?_
   cases ha
   obtain ⟨bx, S6, fr2, e1, hs1, hO2, hl2⟩ := store_W (P := Tryz.prog) (k := 0 + ((i : Nat) : Int).toNat * 17 + 1) (t := 3) (u := .int .i64 4) hl hO (by omega) rfl (by kernel_rfl) (by rw [Nat.zero_add]; exact setN_val 4 D i s hD) ((flat_len (f := Sg.cells) (z := 17) (fun _ => rfl) _).trans ((congrArg (· * 17) List.length_set).trans (flat_len (f := Sg.cells) (z := 17) (fun _ => rfl) _).symm))
   cases e1
   refine re_store rfl rfl rfl rfl rfl rfl hs1 ?_; refine zg ?_
   have hf : fixS s = { s with value := 4 } := by unfold fixS; rw [h31]; rfl
   have hl3 : (D.set i (fixS s)).length = D.length := List.length_set
   rw [← hf] at hO2
   exact ⟨C.length - (i + 1), by omega, i + 1, D.set i (fixS s), fr2, by omega, rfl, hH.step hs, by rw [hl3]; exact hO2, ⟨rfl, rfl, rfl, trivial⟩, by rw [hl3]; exact hl2⟩
  ·
   refine zg ?_
   exact ⟨C.length - (i + 1), by omega, i + 1, D, fr, by omega, rfl, hH.same hs (by unfold fixS; rw [h31]; rfl), hO, ⟨rfl, rfl, rfl, trivial⟩, hl⟩
 ·
  obtain rfl : i = C.length := by have := of_decide_eq_false h14; have := hH.1; omega
  have hLn := half_ln hH hC
  have hv2 : Sgs S' (.slice (some ⟨bC, 0, none⟩) D.length D.length) D := OW.ls (f := Sg.cells) (q := [(B3, .cells [.string partS, .slice (some ⟨bC, 0, none⟩) D.length D.length] 25 false true [])]) (l := []) (fun _ => rfl) hO hl
  have hl := hl.mark
  refine zg ?_
  refine zc hl rfl (spec5 (some ⟨bC, 0, none⟩) D.length D (hGh.keep hl.keep) (half_cm hH) (by rw [hH.1]; exact hC27) hLn (ln_one hLn) (hG.keep hl.keep) (hGc.keep hl.keep) (hl.keep.3 hF) (hv2.move (hl.since 0 rfl))) ?_; rintro v S6 hk6 rfl hl
  refine zg ?_
  refine zc hl rfl (kAwake) ?_; rintro v S7 hk7 rfl hl
  refine zg ?_
  exact y1 rfl ⟨hl.keep, rfl⟩
end Go.Proofs.YtblhfojaiipboaaGreatDoor
namespace Go.Proofs.YtblhfojaiipboaaGreatDoor
open Go.Cm Go
set_option maxRecDepth 100000
variable {S : St}
theorem rep_int {S : St} {P : Program} {n : Nat} {t : TypeId} {k : IntKind} {c : List Value} (h : Rep P (n + 1) t S c) (hu : P.underlying t = some (.int k)) : ∃ m, c = [.int k m] := by
 unfold Rep at h
 rw [hu] at h
 obtain ⟨m, h, _⟩ := h
 exact ⟨m, h⟩
theorem nth_range {α : Type} (f : Nat → α) : ∀ (n k i : Nat), i < n → nth ((List.range' k n).map f) i = some (f (k + i))
 | n + 1, k, 0, _ => rfl
 | n + 1, k, i + 1, h => by
  show nth ((List.range' (k + 1) n).map f) i = _
  rw [nth_range f n (k + 1) i (by omega)]
  congr 2; omega
theorem rep_slice {S : St} {P : Program} {n z : Nat} {t e : TypeId} {c : List Value} (h : Rep P (n + 1) t S c) (hu : P.underlying t = some (.slice e)) (hz : P.cellsOf e = z) : ∃ v C, c = [v] ∧ SliceAt S e z v C ∧ ∀ x, x ∈ C → Rep P n e S x := by
 unfold Rep at h
 rw [hu] at h
 rcases h with h | ⟨b, o, k, h⟩ | ⟨b, len, cs, h1, h2, h3, h4, h5, h6⟩
 ·exact ⟨_, [], h, .inl ⟨rfl, .inl rfl⟩, fun x hx => (List.not_mem_nil hx).elim⟩
 ·exact ⟨_, [], h, .inl ⟨rfl, .inr ⟨b, o, k, rfl⟩⟩, fun x hx => (List.not_mem_nil hx).elim⟩
 ·refine ⟨_, (List.range' 0 len).map (fun i => (cs.drop (i * z)).take z), h1, .inr ⟨b, 0, len, cs, by simp, by simp, ⟨h2, _, _, h3⟩, fun k x hk => ?_⟩, fun x hx => ?_⟩
  ·have hlt : k < len := by have := nth_lt hk; simpa using this
   rw [nth_range _ _ _ _ hlt] at hk
   cases hk
   rw [dropN_eq, Nat.zero_add, Nat.zero_add, takeN_some]
   rw [List.length_drop, h4, hz]
   have : (k + 1) * z ≤ len * z := Nat.mul_le_mul_right z hlt
   rw [Nat.add_mul] at this
   omega
  ·obtain ⟨i, hi, rfl⟩ := List.mem_map.1 hx
   rw [List.mem_range'_1] at hi
   have := h6 i (by omega)
   rw [hz] at this
   exact this
theorem all_ints : ∀ {C : List (List Value)}, (∀ x, x ∈ C → ∃ m : Int, x = [.int .i64 m]) → ∃ L : List Int, C = L.map fun i => [Value.int .i64 i]
 | [], _ => ⟨[], rfl⟩
 | x :: C, h => by
  obtain ⟨s, e1⟩ := h x (List.mem_cons_self ..)
  obtain ⟨L, e2⟩ := all_ints (C := C) fun y hy => h y (List.mem_cons_of_mem _ hy)
  exact ⟨s :: L, by rw [e1, e2]; rfl⟩
theorem rep_ints {c : List Value} {n : Nat} (h : Rep Tryz.prog (n + 2) 22 S c) : ∃ (a : Option Addr) (cap : Nat) (L : List Int), c = [.slice a L.length cap] ∧ Ints S (.slice a L.length cap) L := by
 obtain ⟨v, C, e1, h1, hC⟩ := rep_slice h Tryz.underlying22 (z := 1) (by kernel_rfl)
 obtain ⟨L, rfl⟩ := all_ints fun x hx => rep_int (hC x hx) Tryz.underlying3
 have hs : Ints S v L := h1
 obtain ⟨a, cap, rfl⟩ := LsOf.is hs
 exact ⟨a, cap, L, e1, hs⟩
theorem lkT_mem : ∀ {l : List (Nat × List Value × Value)} {f : Nat} {a : List Value} {v : Value}, lkT l f a = some v → (f, a, v) ∈ l
 | [], _, _, _, h => by cases h
 | (g, as_, u) :: r, f, a, v, h => by
  rw [lkT] at h
  cases hb : (Nat.beq g f && sameL 1000 as_ a) with
  | true =>
   rw [hb] at h
   cases h
   rw [Bool.and_eq_true] at hb
   rw [of_nbeq hb.1, sameL_eq _ _ _ hb.2]
   exact List.mem_cons_self ..
  | false =>
   rw [hb] at h
   exact List.mem_cons_of_mem _ (lkT_mem h)
theorem tblOk : tbl.all (fun e => retEq e.2.2 ((fnsG Tryz.prog (kk noCall) 100000).call (.fn (.func e.1) #[]) e.2.1 (startS listed Tryz.prog.globals.size))) = true := by kernel_rfl
theorem tblFlat : tbl.all (fun e => e.2.1.all (flatV 9) && flatV 9 e.2.2) = true := by kernel_rfl
noncomputable def bodied2 (f : Nat) : Bool := match Tryz.prog.funcs[f]? with
 | some fn => fn.body.isSome && !(fn.name == "runtime.NumGoroutine")
 | none => false
theorem tblBod : tbl.all (fun e => bodied2 e.1) = true := by kernel_rfl
theorem bodied2_some {f : Nat} (h : bodied2 f = true) : ∃ fn c, Tryz.prog.funcs[f]? = some fn ∧ fn.body = some c ∧ (fn.name == "runtime.NumGoroutine") = false := by
 unfold bodied2 at h
 split at h
 ·rename_i fn hf
  rw [Bool.and_eq_true] at h
  obtain ⟨c, hc⟩ := Option.isSome_iff_exists.1 h.1
  exact ⟨fn, c, hf, hc, by simpa using h.2⟩
 ·cases h
theorem known_M {W : World} (h : Met W) : KnownSound Tryz.prog KK W := by
 refine ⟨ext_sound _, fun f args S v hv => ?_⟩
 simp only [KK, kk, callM] at hv
 split at hv
 ·cases hb : Nat.beq f 6 with
  | true =>
   rw [hb] at hv
   cases hv
   obtain rfl := of_nbeq hb
   exact ⟨fun ρ => .bool _, Tryz.f6, _, Tryz.func6, bdA6, by kernel_rfl, zeroKnown fun w hk => true_A (met_later hk h)⟩
  | false =>
   rw [hb] at hv
   cases hv
 ·have hm := lkT_mem hv
  have h1 := List.all_eq_true.1 tblOk _ hm
  have h2 := List.all_eq_true.1 tblFlat _ hm
  rw [Bool.and_eq_true] at h2
  obtain ⟨fn, c, hf, hb, hnm⟩ := bodied2_some (List.all_eq_true.1 tblBod _ hm)
  exact ⟨fun ρ => (flatV_spec 9 _ h2.2).refl ρ, fn, c, hf, hb, hnm, flatKnown h2.1 fun w hk => flat_calls follows (known_A (met_later hk h)) hf hb hnm h2.1 h2.2 h1 (size_le (met_later hk h)) (met_later hk h) listed_flat⟩
theorem globals3 : Tryz.prog.globals.size = 3 := by kernel_rfl
theorem start_gl : Gl (startS listed Tryz.prog.globals.size) :=
 ⟨Nat.le_of_ble_eq_true (show Nat.ble (2 + 1) Tryz.prog.globals.size = true by kernel_rfl), by kernel_rfl⟩
theorem start_gc : Gc (startS listed Tryz.prog.globals.size) :=
 ⟨Nat.le_of_ble_eq_true (show Nat.ble (0 + 1) Tryz.prog.globals.size = true by kernel_rfl), by kernel_rfl⟩
theorem start_gh : Gh (startS listed Tryz.prog.globals.size) :=
 ⟨Nat.le_of_ble_eq_true (show Nat.ble (1 + 1) Tryz.prog.globals.size = true by kernel_rfl), by kernel_rfl⟩
theorem start_fresh : Fresh (startS listed Tryz.prog.globals.size) := by
 intro b hb
 cases h : (startS listed Tryz.prog.globals.size).get b with
 | none => rfl
 | some B =>
  obtain ⟨l, hl, _⟩ := start_get Tryz.prog.globals.size listed b B h
  have hb' : 3 ≤ b := globals3 ▸ hb
  rcases listed_eq b l hl with ⟨rfl, _⟩ | ⟨rfl, _⟩ | ⟨rfl, _⟩ <;> omega
theorem joinI {W : World} (hm : Met W) {H : Type} {enc : TypeId × Value → H} {a1 : Option Addr} {l1 k1 : Nat} {d1 : DataW H} {p1 : List MemPlace}
  (h1 : DataW.Trod enc Tryz.prog W 0 (fun _ => true) true 22 (.slice a1 l1 k1) d1 p1)
  {f : FuncId} {fn : Func} {c : Code} (hf : Tryz.prog.funcs[f]? = some fn) (hb : fn.body = some c) (hnm : (fn.name == "runtime.NumGoroutine") = false)
  (spec : ∀ (S : St) (ax : Option Addr) (cx : Nat) (X : List Int), Fresh S → Gl S → Gc S → Gh S → Ints S (.slice ax X.length cx) X →
   CC Tryz.prog KK f [.slice ax X.length cx] S fun v _ => v = .bool true) :
  Calls Tryz.prog f #[.slice a1 l1 k1] W fun e w => e = .returned (.bool true) ∧ Kept W w := by
 obtain ⟨fuel1, h1⟩ := h1
 have hsim := start_sim (P := Tryz.prog) (size_le hm) hm listed_flat
 obtain ⟨ρ1, S1, c1, x1, s1, e1, r1, q1⟩ := lay (P := Tryz.prog) (w0 := ⟨W, fun _ => false⟩) 7 22 fuel1 _ _ _ (by kernel_rfl) (fun _ => rfl) h1 _ _ hsim
 obtain ⟨ax, cx, X, rfl, hs1⟩ := rep_ints (n := 5) q1
 refine (calls_of_cc follows (known_M hm) hf hb hnm s1 (args' := #[.slice a1 l1 k1]) (VRs.cons (VRs.head r1) VRs.nil) (spec S1 ax cx X (e1.3 start_fresh) (start_gl.keep e1) (start_gc.keep e1) (start_gh.keep e1) hs1)).mono ?_
 rintro e w ⟨v, ρ', v', hv, hr, he, hk⟩
 subst hv
 cases hr
 exact ⟨he, hk⟩
end Go.Proofs.YtblhfojaiipboaaGreatDoor

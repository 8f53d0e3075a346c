/-
  interval.clashes. interval.Clashes, event: zero, one. event.Check. event.End. align: Check, merged. align.moments. The frame of align.Slices. slices as data. the iterator. align.slicesOf, Slices. parallel: opened, sounds, sign.
-/
import Derived.Test.YtgiibikieblicaaGreatDoorSmA
import Derived.Test.YtgiibikieblicaaGreatDoorSy2
namespace Go.Proofs.YtgiibikieblicaaGreatDoor
open Go.Cm Go
set_option maxRecDepth 100000
variable {S : St}
theorem cl_nil {S S' : St} {C : List Pt} (h : ((C.length : Int) == 0) = true) : ∃ av, (tupV [.slice none 0 0] : Value) = .slice av (clE C).length (clE C).length ∧ Grow S S' (gOf 106 3 Cl.cells (tupV [.slice none 0 0]) (clE C)) := by
 have e : C = [] := List.length_eq_zero_iff.1 (by simpa using h)
 subst e
 exact ⟨none, rfl, .inl ⟨rfl, rfl, rfl⟩⟩
theorem cl_end {S S' : St} {C : List Pt} {low : Pt} {av : Option Addr} {O : List Cl} (hlow : nth C (bsE C) = some low) (h : O = clO low C C 0) (hg : Grow S S' (gOf 106 3 Cl.cells (.slice av O.length O.length) O)) : ∃ bv, (tupV [.slice av O.length O.length] : Value) = .slice bv (clE C).length (clE C).length ∧ Grow S S' (gOf 106 3 Cl.cells (tupV [.slice av O.length O.length]) (clE C)) := by
 have he : clE C = O := by unfold clE; rw [hlow, Option.getD_some, h]
 rw [he]
 exact ⟨av, rfl, hg⟩
noncomputable def cd66 : Code := Tryz.f66.body.getD .skip
theorem spec66 (a : Option Addr) (cap : Nat) (C : List Pt) (hF : Fresh S) (hG : Gl S) (hn : C.length ≤ 8) (hv : Pts S (.slice a C.length cap) C) : CC Tryz.prog KK 66 [.slice a C.length cap, .int .i64 (-1)] S (fun v S' => Keep S S' ∧ ∃ av, v = .slice av (clE C).length (clE C).length ∧ Grow S S' (gOf 106 3 Cl.cells v (clE C))) := by
 refine cc_enter (c := cd66) (n := 87) Tryz.func66 rfl rfl rfl (by kernel_rfl) rfl rfl ?_
 have hl := Hold.start S
 refine zg ?_; refine xp_scope rfl ?_; refine zg ?_
 constructor <;> intro h15
 ·
  refine zg ?_
  refine thn_ret (scp_ret (y1 rfl ⟨hl.keep, (cl_nil h15)⟩))
 ·
  refine zg ?_
  have hn0 : 0 < C.length := by have := h15; simp at this; cases C with
   | nil => exact absurd rfl this
   | cons => simp
  obtain ⟨low, hlow⟩ := nth_some (bsE_lt hn0)
  obtain ⟨b0, o0, cs0, ha0, _, hrow0, htk0⟩ := hv.elem hlow
  refine zc hl rfl (spec96 a cap C (hG.keep hl.keep) (by omega) (hv.move (hl.since 0 rfl))) ?_; rintro v S1 hk1 rfl hl
  refine rr rfl (rd_indexAddr rfl rfl rfl (indexAddr_sl (z := 3) ha0 Tryz.underlying98 (by kernel_rfl) ⟨by omega, by have := bsE_lt hn0; omega⟩)) ?_; refine zA ?_; refine re_allocL hl rfl rfl rfl rfl rfl (z := [.int .i64 0, .int .i64 0, .int .i64 0]) (by kernel_rfl) ?_; intro B5 S5 hl; refine re_storeL hl 0 rfl rfl rfl rfl rfl rfl rfl (by kernel_rfl) rfl ?_; intro S1 hl; refine zg ?_; refine xp_label rfl ?_; refine xp_seq rfl ?_; refine zS ?_; refine xp_block rfl ?_
  -- LOOP
  have hl := hl.addG (g := gOf 106 3 Cl.cells (.slice none 0 0) []) (.inl ⟨rfl, rfl, rfl⟩)
  refine xe_sub (L' := [(23, .int .i64 0), (22, .int .i64 C.length), (6, .slice none ([] : List Cl).length ([] : List Cl).length), (5, ptrTo B5 0), (4, .slice none 0 0), (0, .slice a C.length cap), (1, .int .i64 (-1))]) ⟨rfl, rfl, rfl, rfl, rfl, rfl, rfl, trivial⟩ ?_
  refine xp_loop rfl (fun m Le S' => ∃ (i : Nat) (av : Option Addr) (O : List Cl), i ≤ C.length ∧ m = C.length - i ∧ O.length ≤ 8 * i ∧ O ++ clO low C (C.drop i) i = clO low C C 0 ∧ SubE [(23, .int .i64 (i : Int)), (22, .int .i64 C.length), (6, .slice av O.length O.length), (5, ptrTo B5 0), (4, .slice none 0 0), (0, .slice a C.length cap), (1, .int .i64 (-1))] Le ∧ HoldG S [S] S' [(B5, .cells low.cells 52 false true [])] [gOf 106 3 Cl.cells (.slice av O.length O.length) O]) ?_ (m := C.length) ⟨0, none, [], by omega, by omega, Nat.le_refl _, rfl, ⟨rfl, rfl, rfl, rfl, rfl, rfl, rfl, trivial⟩, hl⟩
  clear hl; rintro m Le S' ⟨i, av, O, hi, rfl, hO, hpr, hsub, hl⟩; refine xe_sub hsub ?_
  refine zg ?_
  constructor <;> intro h24
  ·
   have hlt : i < C.length := by have := of_decide_eq_true h24; omega
   obtain ⟨x, hx⟩ := nth_some hlt
   obtain ⟨b1, o1, cs1, ha1, _, hrow1, htk1⟩ := hv.elem hx
   rw [drop_nth' hx, clO_step] at hpr
   refine xp_skip rfl ?_; refine xp_seq rfl ?_; refine xp_block rfl ?_; iterate 2 refine zS ?_
   refine xp_block rfl ?_
   -- LOOP
   refine xe_sub (L' := [(28, .int .i64 0), (27, .int .i64 C.length), (7, .int .i64 (i : Int)), (23, .int .i64 (i : Int)), (22, .int .i64 C.length), (6, .slice av O.length O.length), (5, ptrTo B5 0), (4, .slice none 0 0), (0, .slice a C.length cap), (1, .int .i64 (-1))]) ⟨rfl, rfl, rfl, rfl, rfl, rfl, rfl, rfl, rfl, rfl, trivial⟩ ?_
   refine xp_loop rfl (fun m Le S' => ∃ (k : Nat) (av : Option Addr) (O2 : List Cl), k ≤ C.length ∧ m = C.length - k ∧ O2.length ≤ 8 * i + k ∧ O2 ++ clI low x i (C.drop k) k = O ++ clI low x i C 0 ∧ SubE [(28, .int .i64 (k : Int)), (27, .int .i64 C.length), (7, .int .i64 (i : Int)), (23, .int .i64 (i : Int)), (22, .int .i64 C.length), (6, .slice av O2.length O2.length), (5, ptrTo B5 0), (4, .slice none 0 0), (0, .slice a C.length cap), (1, .int .i64 (-1))] Le ∧ HoldG S [S] S' [(B5, .cells low.cells 52 false true [])] [gOf 106 3 Cl.cells (.slice av O2.length O2.length) O2]) ?_ (m := C.length) ⟨0, av, O, by omega, by omega, by omega, rfl, ⟨rfl, rfl, rfl, rfl, rfl, rfl, rfl, rfl, rfl, rfl, trivial⟩, hl⟩
   clear hl; rintro m Le S' ⟨k, av2, O2, hk, rfl, hO2, hpr2, hsub2, hl⟩; refine xe_sub hsub2 ?_
   refine zg ?_
   constructor <;> intro h29
   ·
    have hlt2 : k < C.length := by have := of_decide_eq_true h29; omega
    obtain ⟨y, hy⟩ := nth_some hlt2
    obtain ⟨b2, o2, cs2, ha2, _, hrow2, htk2⟩ := hv.elem hy
    rw [drop_nth' hy] at hpr2
    refine zg ?_
    constructor <;> intro h33
    ·
     refine zg ?_
     exact ⟨C.length - (k + 1), by omega, k + 1, av2, O2, by omega, rfl, by omega, by rw [← hpr2, clI_1 h33], ⟨rfl, rfl, rfl, rfl, rfl, rfl, rfl, rfl, rfl, rfl, trivial⟩, hl⟩
    ·
     refine zg ?_; refine xp_draw (idx := [0, 1, 2, 3, 4, 5, 6, 7, 8, 9, 10, 11, 12, 13]) rfl (by kernel_rfl) (by kernel_rfl) ?_; refine zg ?_
     refine zp hl rfl (spec63 x y (hl.keep.3 hF) (hG.keep hl.keep)) ?_; rintro v S1 hk1 rfl hl; refine ⟨zt, ?_⟩
     refine zg ?_; refine xp_draw (idx := [0, 1, 2, 3, 4, 5, 6, 7, 12, 13, 8, 9, 10, 11, 14, 15]) rfl (by kernel_rfl) (by kernel_rfl) ?_; refine zg ?_; refine rp_allocL hF hl rfl rfl rfl rfl rfl (z := [.int .i64 0, .int .i64 0, .int .i64 0]) (by kernel_rfl) ?_; intro B11 S11 hl; refine rp_allocL hF hl rfl rfl rfl rfl rfl (z := [.int .i64 0, .int .i64 0, .int .i64 0]) (by kernel_rfl) ?_; intro B12 S12 hl
     refine zp hl rfl (spec97 x y (hG.keep hl.keep)) ?_; rintro v S1 hk1 rfl hl; refine ⟨zt, ?_⟩
     refine zg ?_
     refine rp_storeL hl 1 rfl rfl rfl rfl rfl rfl rfl (by kernel_rfl) rfl ?_; intro S1 hl; refine ⟨zt, ?_⟩
     refine rp_storeL hl 0 rfl rfl rfl rfl rfl rfl rfl (by kernel_rfl) rfl ?_; intro S1 hl; refine ⟨stays_all (by kernel_rfl), ?_⟩
     refine zA ?_; refine xp_seq rfl (xe_cut (fun Le S' => ∃ (av3 : Option Addr) (O3 : List Cl), O3.length ≤ 8 * i + (k + 1) ∧ O3 ++ clI low x i (C.drop (k + 1)) (k + 1) = O ++ clI low x i C 0 ∧ SubE [(28, .int .i64 (k : Int)), (27, .int .i64 C.length), (7, .int .i64 (i : Int)), (23, .int .i64 (i : Int)), (22, .int .i64 C.length), (6, .slice av3 O3.length O3.length), (5, ptrTo B5 0), (4, .slice none 0 0), (0, .slice a C.length cap), (1, .int .i64 (-1))] Le ∧ HoldG S [S] S' [(B5, .cells low.cells 52 false true [])] [gOf 106 3 Cl.cells (.slice av3 O3.length O3.length) O3]) ?_ ?_)
     ·
      refine xp_seq rfl (xe_toE hl 72 (.bool (clB low x y)) ?_ rfl ?_)
      ·
       refine zg ?_; refine re_bool (d := 60) rfl (fun h60 => ?_) (fun h60 => ?_)
       ·
        refine zg ?_
        exact ⟨rfl, bl (by unfold clB; rw [h60]; rfl), sB, hl⟩
       ·
        refine zg ?_; refine re_bool (d := 63) rfl (fun h63 => ?_) (fun h63 => ?_)
        ·
         refine zg ?_
         exact ⟨rfl, bl (by unfold clB; rw [h60, h63]; rfl), sB, hl⟩
        ·
         refine zg ?_; refine re_bool (d := 67) rfl (fun h67 => ?_) (fun h67 => ?_)
         ·
          refine zg ?_
          exact ⟨rfl, bl (by unfold clB; rw [h60, h63, h67]; rfl), sB, hl⟩
         ·
          refine zg ?_
          exact ⟨rfl, bl (by unfold clB; rw [h60, h63, h67]; rfl), sB, hl⟩
      intro S1 hl
      refine zg ?_
      constructor <;> intro h72
      ·
       refine zg ?_; refine rr rfl (rd_build rfl rfl (v := aggL [.int .i64 i, .int .i64 k, .int .i64 (kdE x y).1]) (by rfl)) ?_; refine re_buildSliceR hl rfl rfl rfl rfl rfl Tryz.underlying101 rfl (c := [.int .i64 i, .int .i64 k, .int .i64 (kdE x y).1]) (by kernel_rfl) ?_; intro B78 S1 hr78 hl; refine re_appendG hl 0 rfl rfl (by simp) rfl rfl rfl rfl rfl rfl rfl Tryz.underlying101 Tryz.underlying101 rfl rfl (by kernel_rfl) (src_row (new := [.int .i64 i, .int .i64 k, .int .i64 (kdE x y).1]) hr78 rfl) rfl rfl (by kernel_rfl) (by show O2.length + 1 ≤ maxNeed; unfold maxNeed; omega) ?_; intro v79 S1 hl
       obtain ⟨av3, rfl⟩ : ∃ av3, v79 = .slice av3 (O2.length + 1) (O2.length + 1) := Grow.is (hl.gr _ (List.mem_cons_self ..))
       refine zg ?_
       have hc : O2 ++ [⟨(i : Int), (k : Int), (kdE x y).1⟩] ++ clI low x i (C.drop (k + 1)) (k + 1) = O ++ clI low x i C 0 := by
        rw [← hpr2, clI_2 h33 h72, List.append_assoc]; rfl
       refine ⟨rfl, av3, O2 ++ [⟨(i : Int), (k : Int), (kdE x y).1⟩], by rw [List.length_append]; show O2.length + 1 ≤ _; omega, hc, ⟨rfl, rfl, rfl, rfl, rfl, congrArg some (congrArg (fun n => Value.slice av3 n n) (by rw [List.length_append]; rfl)), rfl, rfl, rfl, rfl, trivial⟩, ?_⟩
       rw [gOf_push]
       exact hl.tail.tail
      ·
       refine zg ?_
       have hc : O2 ++ clI low x i (C.drop (k + 1)) (k + 1) = O ++ clI low x i C 0 := by
        rw [← hpr2, clI_3 h33 h72]
       exact ⟨rfl, av2, O2, by omega, hc, ⟨rfl, rfl, rfl, rfl, rfl, rfl, rfl, rfl, rfl, rfl, trivial⟩, hl.tail.tail⟩
     clear hl; rintro Le3 S1 ⟨av3, O3, hO3, hpr3, hsub3, hl⟩; refine xe_sub hsub3 ?_
     refine zg ?_
     constructor <;> intro h83
     ·
      refine zg ?_
      refine scp_ret (y1 rfl ⟨hl.keep, (by simp at h83 <;> omega)⟩)
     ·
      refine zg ?_
      exact ⟨C.length - (k + 1), by omega, k + 1, av3, O3, by omega, rfl, by omega, hpr3, ⟨rfl, rfl, rfl, rfl, rfl, rfl, rfl, rfl, rfl, rfl, trivial⟩, hl⟩
   ·
    refine zg ?_
    have he : O2 = O ++ clI low x i C 0 := by rw [← hpr2, List.drop_eq_nil_of_le (by have := of_decide_eq_false h29; omega)]; exact (List.append_nil _).symm
    exact ⟨C.length - (i + 1), by omega, i + 1, av2, O2, by omega, rfl, by omega, by rw [he, List.append_assoc]; exact hpr, ⟨rfl, rfl, rfl, rfl, rfl, rfl, rfl, trivial⟩, hl⟩
  ·
   refine zg ?_
   refine scp_ret (y1 rfl ⟨hl.keep, (cl_end hlow (by rw [← hpr, List.drop_eq_nil_of_le (by have := of_decide_eq_false h24; omega)]; exact (List.append_nil _).symm) (hl.gr _ (List.mem_cons_self ..)))⟩)
end Go.Proofs.YtgiibikieblicaaGreatDoor
namespace Go.Proofs.YtgiibikieblicaaGreatDoor
open Go.Cm Go
set_option maxRecDepth 100000
variable {S : St}
noncomputable def cd46 : Code := Tryz.f46.body.getD .skip
theorem spec46 (a : Option Addr) (cap : Nat) (C : List Pt) (hF : Fresh S) (hG : Gl S) (hv : Pts S (.slice a C.length cap) C) : CC Tryz.prog KK 46 [.slice a C.length cap] S (fun v S' => Keep S S' ∧ ∃ av, v = tupV [.slice av (clsE C).1.length (clsE C).1.length, .int .i64 (clsE C).2] ∧ Grow S S' (gOf 106 3 Cl.cells (.slice av (clsE C).1.length (clsE C).1.length) (clsE C).1)) := by
 refine cc_enter (c := cd46) (n := 12) Tryz.func46 rfl rfl rfl (by kernel_rfl) rfl rfl ?_
 have hl := Hold.start S
 refine zg ?_
 refine zc hl rfl (spec65 a cap C (hv.move (hl.since 0 rfl))) ?_; rintro v S1 hk1 rfl hl
 refine zg ?_
 constructor <;> intro h8
 ·
  refine zg ?_
  exact (z2 rfl rfl ⟨hl.keep, ⟨none, by rw [cls_1 h8] <;> rfl, by rw [cls_1 h8]; exact .inl ⟨rfl, rfl, rfl⟩⟩⟩)
 ·
  refine zg ?_
  refine zc hl rfl (spec66 a cap C (hl.keep.3 hF) (hG.keep hl.keep) (chk_len h8) (hv.move (hl.since 0 rfl))) ?_; have hl2 := hl.keep.1; rintro v S1 hk1 ⟨av, rfl, hg⟩ hl
  refine zg ?_
  refine y2 rfl rfl ⟨hl.keep, ⟨av, by rw [cls_2 h8] <;> rfl, by rw [cls_2 h8]; exact Grow.base hg hl2⟩⟩
noncomputable def cd114 : Code := Tryz.f114.body.getD .skip
theorem spec114  : CC Tryz.prog KK 114 [] S (fun v S' => Keep S S' ∧ v = zT.v) := by
 refine cc_enter (c := cd114) (n := 2) Tryz.func114 rfl rfl rfl (by kernel_rfl) rfl rfl ?_
 have hl := Hold.start S
 refine zg ?_; refine re_allocL hl rfl rfl rfl rfl rfl (z := [.int .i64 0, .int .i64 0]) (by kernel_rfl) ?_; intro B0 S0 hl; refine zg ?_; refine rr rfl (rd_build rfl rfl (v := aggL [.int .i64 0, .int .i64 1]) (by rfl)) ?_; refine re_storeL hl 0 rfl rfl rfl rfl rfl rfl rfl (by kernel_rfl) rfl ?_; intro S1 hl; refine zg ?_
 refine done_ret (ress_cell rfl (lN (z := 2) (hl.get 0 rfl) rfl) rfl) ⟨hl.keep, rfl⟩
noncomputable def cd115 : Code := Tryz.f115.body.getD .skip
theorem spec115 (x : Ev) : CC Tryz.prog KK 115 [x.v] S (fun v S' => Keep S S' ∧ v = .int .i64 (oneE x)) := by
 refine cc_enter (c := cd115) (n := 47) Tryz.func115 rfl rfl rfl (by kernel_rfl) rfl rfl ?_
 have hl := Hold.start S
 refine zg ?_; refine re_boxL hl rfl rfl rfl rfl rfl rfl ?_; intro B1 S1 hl; refine zg ?_; refine re_buildSliceR hl rfl rfl rfl rfl rfl Tryz.underlying116 rfl (c := ([x.at_, x.dur].map Ti.cells).flatten) (by kernel_rfl) ?_; intro B11 Sr hr11 hl
 have hl := hl.mark
 have hv2 : Tis Sr (.slice (some ⟨B11, 0, none⟩) 2 2) [x.at_, x.dur] := LsOf.row (fun _ => rfl) hr11 rfl
 refine zA ?_; refine xp_block rfl ?_
 -- LOOP
 refine xe_sub (L' := [(13, .int .i64 0), (12, .int .i64 2), (11, .slice (some ⟨B11, 0, none⟩) 2 2), (2, .int .i64 0), (1, ptrTo B1 0)]) ⟨rfl, rfl, rfl, rfl, rfl, trivial⟩ ?_
 refine xp_loop rfl (fun m Le S' => ∃ i : Nat, i ≤ 2 ∧ m = 2 - i ∧ firstE ([x.at_, x.dur].drop i) = firstE [x.at_, x.dur] ∧ SubE [(13, .int .i64 (i : Int)), (12, .int .i64 2), (11, .slice (some ⟨B11, 0, none⟩) 2 2), (2, .int .i64 0), (1, ptrTo B1 0)] Le ∧ HoldG S [Sr, S] S' [(B1, .cells x.cells 54 false true [])] []) ?_ (m := 2) ⟨0, by omega, rfl, rfl, ⟨rfl, rfl, rfl, rfl, rfl, trivial⟩, hl⟩
 clear hl; rintro m Le S' ⟨i, hi, rfl, hin, hsub, hl⟩; refine xe_sub hsub ?_
 refine zg ?_
 constructor <;> intro h14
 ·
  have hlt : i < 2 := by have := of_decide_eq_true h14; omega
  obtain ⟨y, hy⟩ := nth_some (l := [x.at_, x.dur]) hlt
  obtain ⟨b1, o1, cs1, ha, _, hrow, htk⟩ := hv2.elem hy
  refine zg ?_; refine re_allocL hl rfl rfl rfl rfl rfl (z := [.int .i64 0, .int .i64 0]) (by kernel_rfl) ?_; intro B4 S4 hl; refine re_storeL hl 0 rfl rfl rfl rfl rfl rfl rfl (by kernel_rfl) rfl ?_; intro S1 hl; refine zg ?_
  refine zc hl rfl (spec125 y) ?_; rintro v S1 hk1 rfl hl
  refine zg ?_
  constructor <;> intro h20
  ·
   refine zg ?_
   refine blk_ret (thn_ret (round_ret (blk_ret ((z1 rfl ⟨hl.keep, by have e : firstE [x.at_, x.dur] = tE y := (by rw [← hin, drop_nth' hy]; exact (first_bad h20)); rw [one_1 (by rw [e]; exact h20), e] <;> rfl⟩)))))
  ·
   refine zg ?_
   exact ⟨2 - (i + 1), by omega, i + 1, by omega, rfl, by rw [← first_go h20, ← drop_nth' hy]; exact hin, ⟨rfl, rfl, rfl, rfl, rfl, trivial⟩, hl.tail⟩
 ·
  have h0 : firstE [x.at_, x.dur] = 0 := by rw [← hin, List.drop_eq_nil_of_le (by have := of_decide_eq_false h14; simp; omega)]; rfl
  refine zg ?_
  constructor <;> intro h26
  ·
   refine zg ?_
   exact (z1 rfl ⟨hl.keep, by rw [one_2 h0 h26] <;> rfl⟩)
  ·
   refine xp_skip rfl ?_; refine xp_seq rfl (xe_cutR (fun Le S' => SubE [(2, .int .i64 0), (1, ptrTo B1 0)] Le ∧ midE x = 0 ∧ HoldG S [Sr, S] S' [(B1, .cells x.cells 54 false true [])] []) ?_ ?_)
   ·
    refine zg ?_
    constructor <;> intro h28
    ·
     refine zg ?_; refine rr rfl (rd_build rfl rfl (v := aggL [.int .i64 0, .int .i64 0, .int .i64 0]) (by rfl)) ?_; refine rr rfl (rd_bin rfl rfl rfl (nePitch _ _ x.p p0)) ?_; refine zg ?_
     constructor <;> intro h32
     ·
      refine zg ?_
      refine cut_ret ((z1 rfl ⟨hl.keep, by rw [one_3 h0 h26 (by rw [mid_1 h28 h32]; rfl), mid_1 h28 h32] <;> rfl⟩))
     ·
      refine zg ?_
      exact .inl ⟨rfl, ⟨rfl, rfl, trivial⟩, mid_2 h28 h32, hl⟩
    ·
     refine zg ?_
     refine zc hl rfl (spec92 x.p) ?_; rintro v S1 hk1 rfl hl
     refine zg ?_
     constructor <;> intro h37
     ·
      refine zg ?_
      refine cut_ret ((z1 rfl ⟨hl.keep, by rw [one_3 h0 h26 (by rw [mid_3 h28]; exact h37), mid_3 h28] <;> rfl⟩))
     ·
      refine zg ?_
      exact .inl ⟨rfl, ⟨rfl, rfl, trivial⟩, by rw [mid_3 h28]; simpa using h37, hl⟩
   clear hl; rintro Le3 S1 ⟨hsub3, hmid, hl⟩; refine xe_sub hsub3 ?_
   refine xp_seq rfl ?_; refine xp_seq rfl (xe_toE hl 46 (.bool (decide (x.sign < 0) || decide (x.pass < 0))) ?_ rfl ?_)
   ·
    refine zg ?_; refine re_bool (d := 42) rfl (fun h42 => ?_) (fun h42 => ?_)
    ·
     refine zg ?_
     exact ⟨rfl, bl (by first | (simp [h42]; done) | (simp only [h42, BLs])), sB, hl⟩
    ·
     refine zg ?_
     exact ⟨rfl, bl (by first | (simp [h42]; done) | (simp only [h42, BLs])), sB, hl⟩
   intro S1 hl
   refine zg ?_
   constructor <;> intro h46
   ·
    refine zg ?_
    exact (z1 rfl ⟨hl.keep, by rw [one_4 h0 h26 hmid h46] <;> rfl⟩)
   ·
    refine zg ?_
    refine y1 rfl ⟨hl.keep, by rw [one_5 h0 h26 hmid h46] <;> rfl⟩
end Go.Proofs.YtgiibikieblicaaGreatDoor
namespace Go.Proofs.YtgiibikieblicaaGreatDoor
open Go.Cm Go
set_option maxRecDepth 100000
variable {S : St}
noncomputable def cd86 : Code := Tryz.f86.body.getD .skip
theorem spec86 (a : Option Addr) (cap : Nat) (C : List Ev) (hF : Fresh S) (hv : Evs S (.slice a C.length cap) C) : CC Tryz.prog KK 86 [.slice a C.length cap] S (fun v S' => Keep S S' ∧ v = tupV [.int .i64 (evE C).1, .int .i64 (evE C).2]) := by
 refine cc_enter (c := cd86) (n := 46) Tryz.func86 rfl rfl rfl (by kernel_rfl) rfl rfl ?_
 have hl := Hold.start S
 refine zg ?_
 constructor <;> intro h12
 ·
  refine zg ?_
  exact (z2 rfl rfl ⟨hl.keep, by rw [ev_1 h12] <;> rfl⟩)
 ·
  refine zg ?_
  refine zc hl rfl spec114 ?_; rintro v S1 hk1 rfl hl
  refine re_allocL hl rfl rfl rfl rfl rfl (z := [.int .i64 0, .int .i64 0]) (by kernel_rfl) ?_; intro B4 S4 hl; refine re_storeL hl 0 rfl rfl rfl rfl rfl rfl rfl (by kernel_rfl) rfl ?_; intro S1 hl; refine zA ?_; refine xp_seq rfl ?_; refine zS ?_; refine xp_block rfl ?_
  -- LOOP
  have hn : (C.length : Int) ≤ 2000 := by have := of_decide_eq_false h12; omega
  refine xe_sub (L' := [(16, .int .i64 0), (15, .int .i64 C.length), (14, .slice a C.length cap), (4, ptrTo B4 0), (3, .int .i64 0), (2, .int .i64 0)]) ⟨rfl, rfl, rfl, rfl, rfl, rfl, trivial⟩ ?_
  refine xp_loop rfl (fun m Le S' => ∃ (i : Nat) (now : Ti), i ≤ C.length ∧ m = C.length - i ∧ evG (C.drop i) now i = evG C zT 0 ∧ SubE [(16, .int .i64 (i : Int)), (15, .int .i64 C.length), (14, .slice a C.length cap), (4, ptrTo B4 0), (3, .int .i64 0), (2, .int .i64 0)] Le ∧ HoldG S [S] S' [(B4, .cells now.cells 50 false true [])] []) ?_ (m := C.length) ⟨0, zT, by omega, rfl, rfl, ⟨rfl, rfl, rfl, rfl, rfl, rfl, trivial⟩, hl⟩
  clear hl; rintro m Le S' ⟨i, now, hi, rfl, hin, hsub, hl⟩; refine xe_sub hsub ?_
  refine zg ?_
  constructor <;> intro h17
  ·
   have hlt : i < C.length := by have := of_decide_eq_true h17; omega
   obtain ⟨x, hx⟩ := nth_some hlt
   obtain ⟨b1, o1, cs1, ha, _, hrow, htk⟩ := hv.elem hx
   rw [drop_nth' hx] at hin
   refine zg ?_; refine re_allocL hl rfl rfl rfl rfl rfl (z := [.int .i64 0, .int .i64 0, .int .i64 0, .int .i64 0, .int .i64 0, .int .i64 0, .int .i64 0, .bool false, .int .i64 0, .int .i64 0]) (by kernel_rfl) ?_; intro B6 S6 hl; refine zg ?_; refine re_storeL hl 0 rfl rfl rfl rfl rfl rfl rfl (by kernel_rfl) rfl ?_; intro S1 hl; refine zg ?_
   refine zc hl rfl (spec115 x) ?_; rintro v S1 hk1 rfl hl
   refine zg ?_
   constructor <;> intro h24
   ·
    refine zg ?_
    refine thn_ret (blk_ret (thn_ret (round_ret (blk_ret ((z2 rfl rfl ⟨hl.keep, by rw [ev_2 h12, ← hin, evG_1 h24] <;> rfl⟩))))))
   ·
    refine zg ?_
    constructor <;> intro h30
    ·
     refine zg ?_
     refine thn_ret (blk_ret (thn_ret (round_ret (blk_ret ((z2 rfl rfl ⟨hl.keep, by rw [ev_2 h12, ← hin, evG_2 h24 h30] <;> rfl⟩))))))
    ·
     refine zg ?_
     refine zc hl rfl (spec116 x.at_ x.dur (hl.keep.3 hF)) ?_; rintro v S1 hk1 rfl hl
     refine zg ?_; refine re_allocL hl rfl rfl rfl rfl rfl (z := [.int .i64 0, .int .i64 0]) (by kernel_rfl) ?_; intro B8 S8 hl; refine re_storeL hl 0 rfl rfl rfl rfl rfl rfl rfl (by kernel_rfl) rfl ?_; intro S1 hl; refine zg ?_
     constructor <;> intro h41
     ·
      refine zg ?_
      refine thn_ret (blk_ret (thn_ret (round_ret (blk_ret ((z2 rfl rfl ⟨hl.keep, by rw [ev_2 h12, ← hin, evG_3 h24 h30 h41] <;> rfl⟩))))))
     ·
      refine zg ?_; refine re_storeL hl 2 rfl rfl rfl rfl rfl rfl rfl (by kernel_rfl) rfl ?_; intro S1 hl; refine zg ?_
      exact ⟨C.length - (i + 1), by omega, i + 1, (addE x.at_ x.dur).1, by omega, rfl, by rw [← hin, evG_4 h24 h30 h41], ⟨rfl, rfl, rfl, rfl, rfl, rfl, trivial⟩, hl.tail.tail⟩
  ·
   refine zg ?_
   refine y2 rfl rfl ⟨hl.keep, by rw [ev_2 h12, ← hin, List.drop_eq_nil_of_le (by have := of_decide_eq_false h17; omega)] <;> rfl⟩
end Go.Proofs.YtgiibikieblicaaGreatDoor
namespace Go.Proofs.YtgiibikieblicaaGreatDoor
open Go.Cm Go
set_option maxRecDepth 100000
variable {S : St}
noncomputable def cd91 : Code := Tryz.f91.body.getD .skip
theorem spec91 (a : Option Addr) (cap : Nat) (C : List Ev) (hF : Fresh S) (hv : Evs S (.slice a C.length cap) C) : CC Tryz.prog KK 91 [.slice a C.length cap] S (fun v S' => Keep S S' ∧ v = r2 (endE C)) := by
 refine cc_enter (c := cd91) (n := 33) Tryz.func91 rfl rfl rfl (by kernel_rfl) rfl rfl ?_
 have hl := Hold.start S
 refine zg ?_; refine re_allocL hl rfl rfl rfl rfl rfl (z := [.int .i64 0, .int .i64 0]) (by kernel_rfl) ?_; intro B2 S2 hl; refine zg ?_
 refine zc hl rfl (spec86 a cap C (hl.keep.3 hF) (hv.move (hl.since 0 rfl))) ?_; rintro v S1 hk1 rfl hl
 refine zg ?_
 constructor <;> intro h13
 ·
  refine zg ?_; refine rr rfl (rd_build rfl rfl (v := aggL [.int .i64 0, .int .i64 0]) (by rfl)) ?_; refine zg ?_; refine re_storeL hl 0 rfl rfl rfl rfl rfl rfl rfl (by kernel_rfl) rfl ?_; intro S1 hl; refine zg ?_
  refine thn_ret (done_ret (ress_cell rfl (lN (z := 2) (hl.get 0 rfl) rfl) (ress_tmp rfl rfl)) ⟨hl.keep, by rw [end_1 h13] <;> rfl⟩)
 ·
  refine zg ?_
  constructor <;> intro h18
  ·
   refine zg ?_
   refine zc hl rfl spec114 ?_; rintro v S1 hk1 rfl hl
   refine re_storeL hl 0 rfl rfl rfl rfl rfl rfl rfl (by kernel_rfl) rfl ?_; intro S1 hl; refine zg ?_
   refine thn_ret (done_ret (ress_cell rfl (lN (z := 2) (hl.get 0 rfl) rfl) (ress_tmp rfl rfl)) ⟨hl.keep, by rw [end_2 h13 h18] <;> rfl⟩)
  ·
   have hne : 0 < C.length := by cases C with
    | nil => simp at h18
    | cons => simp
   have hn : C.length ≤ 2000 := ev_len h13
   obtain ⟨x, hx⟩ := nth_some (l := C) (i := C.length - 1) (by omega)
   obtain ⟨b1, o1, cs1, ha, _, hrow, htk⟩ := hv.elem hx
   rw [show C.length - 1 = ((C.length : Int) - 1).toNat by omega] at htk
   refine zg ?_; refine re_allocL hl rfl rfl rfl rfl rfl (z := [.int .i64 0, .int .i64 0, .int .i64 0, .int .i64 0, .int .i64 0, .int .i64 0, .int .i64 0, .bool false, .int .i64 0, .int .i64 0]) (by kernel_rfl) ?_; intro B6 S6 hl; refine re_storeL hl 0 rfl rfl rfl rfl rfl rfl rfl (by kernel_rfl) rfl ?_; intro S1 hl; refine zg ?_
   refine zc hl rfl (spec116 x.at_ x.dur (hl.keep.3 hF)) ?_; rintro v S1 hk1 rfl hl
   refine zg ?_; refine re_storeL hl 1 rfl rfl rfl rfl rfl rfl rfl (by kernel_rfl) rfl ?_; intro S1 hl; refine zg ?_
   refine done_ret (ress_cell rfl (lN (z := 2) (hl.get 1 rfl) rfl) (ress_tmp rfl rfl)) ⟨hl.keep, by rw [end_3 h13 hx] <;> rfl⟩
end Go.Proofs.YtgiibikieblicaaGreatDoor
namespace Go.Proofs.YtgiibikieblicaaGreatDoor
open Go.Cm Go
set_option maxRecDepth 100000
variable {S : St}
noncomputable def cd59 : Code := Tryz.f59.body.getD .skip
theorem spec59 (a : Option Addr) (cap : Nat) (V : List (List Ev)) (hF : Fresh S) (hv : Vs S (.slice a V.length cap) V) : CC Tryz.prog KK 59 [.slice a V.length cap] S (fun v S' => Keep S S' ∧ v = tupV [.int .i64 (acE V).1, .int .i64 (acE V).2]) := by
 refine cc_enter (c := cd59) (n := 28) Tryz.func59 rfl rfl rfl (by kernel_rfl) rfl rfl ?_
 have hl := Hold.start S
 refine zg ?_
 constructor <;> intro h10
 ·
  refine zg ?_
  exact (z2 rfl rfl ⟨hl.keep, by rw [ac_1 h10] <;> rfl⟩)
 ·
  refine xp_skip rfl ?_; refine xp_seq rfl ?_; refine zS ?_; refine xp_block rfl ?_
  -- LOOP
  have hn : (V.length : Int) ≤ 8 := by have := of_decide_eq_false h10; omega
  refine xe_sub (L' := [(13, .int .i64 0), (12, .int .i64 V.length), (11, .slice a V.length cap), (3, .int .i64 0), (2, .int .i64 0)]) ⟨rfl, rfl, rfl, rfl, rfl, trivial⟩ ?_
  refine xp_loop rfl (fun m Le S' => ∃ i : Nat, i ≤ V.length ∧ m = V.length - i ∧ acG (V.drop i) i = acG V 0 ∧ SubE [(13, .int .i64 (i : Int)), (12, .int .i64 V.length), (11, .slice a V.length cap), (3, .int .i64 0), (2, .int .i64 0)] Le ∧ HoldG S [S] S' [] []) ?_ (m := V.length) ⟨0, by omega, rfl, rfl, ⟨rfl, rfl, rfl, rfl, rfl, trivial⟩, hl⟩
  clear hl; rintro m Le S' ⟨i, hi, rfl, hin, hsub, hl⟩; refine xe_sub hsub ?_
  refine zg ?_
  constructor <;> intro h14
  ·
   have hlt : i < V.length := by have := of_decide_eq_true h14; omega
   obtain ⟨x, hx⟩ := nth_some hlt
   obtain ⟨b1, o1, cs1, aw, cw, ha, _, hrow, htk, hvx⟩ := hv.elem hx
   rw [drop_nth' hx] at hin
   refine zg ?_
   refine zc hl rfl (spec86 aw cw x (hl.keep.3 hF) (hvx.move (hl.since 0 rfl))) ?_; rintro v S1 hk1 rfl hl
   refine zg ?_
   constructor <;> intro h24
   ·
    refine zg ?_
    refine blk_ret (thn_ret (round_ret (blk_ret ((z2 rfl rfl ⟨hl.keep, by rw [ac_2 h10, ← hin, acG_1 h24] <;> rfl⟩)))))
   ·
    refine zg ?_
    exact ⟨V.length - (i + 1), by omega, i + 1, by omega, rfl, by rw [← hin, acG_2 h24], ⟨rfl, rfl, rfl, rfl, rfl, trivial⟩, hl⟩
  ·
   refine zg ?_
   refine y2 rfl rfl ⟨hl.keep, by rw [ac_2 h10, ← hin, List.drop_eq_nil_of_le (by have := of_decide_eq_false h14; omega)] <;> rfl⟩
theorem mg_end {S S' : St} {A B O A0 B0 : List Ti} {ao : Option Addr} (hp : mgG (A.length + B.length) A B O = mgE A0 B0) (h : A.length + B.length = 0) (hg : Grow S S' (gOf 50 2 Ti.cells (.slice ao O.length O.length) O)) : ∃ av, (tupV [.slice ao O.length O.length] : Value) = .slice av (mgE A0 B0).length (mgE A0 B0).length ∧ Grow S S' (gOf 50 2 Ti.cells (.slice av (mgE A0 B0).length (mgE A0 B0).length) (mgE A0 B0)) := by
 rw [h] at hp
 have he : mgE A0 B0 = O := hp.symm
 rw [he]
 exact ⟨ao, rfl, hg⟩
noncomputable def cd117 : Code := Tryz.f117.body.getD .skip
theorem spec117 (a0 b0 : Option Addr) (ca cb : Nat) (A0 B0 : List Ti) (hF : Fresh S) (hn : A0.length + B0.length ≤ 100000) (hva : Tis S (.slice a0 A0.length ca) A0) (hvb : Tis S (.slice b0 B0.length cb) B0) : CC Tryz.prog KK 117 [.slice a0 A0.length ca, .slice b0 B0.length cb, .func (.func 90) #[] #[]] S (fun v S' => Keep S S' ∧ ∃ av, v = .slice av (mgE A0 B0).length (mgE A0 B0).length ∧ Grow S S' (gOf 50 2 Ti.cells (.slice av (mgE A0 B0).length (mgE A0 B0).length) (mgE A0 B0))) := by
 refine cc_enter (c := cd117) (n := 59) Tryz.func117 rfl rfl rfl (by kernel_rfl) rfl rfl ?_
 have hl := Hold.start S
 iterate 2 refine zS ?_
 refine xp_seq rfl ?_; refine xp_block rfl ?_
 -- LOOP
 have hl := hl.addG (g := gOf 50 2 Ti.cells (.slice none 0 0) []) (.inl ⟨rfl, rfl, rfl⟩)
 refine xe_sub (L' := [(7, .slice none ([] : List Ti).length ([] : List Ti).length), (6, .slice none 0 0), (0, .slice a0 A0.length ca), (1, .slice b0 B0.length cb), (2, .func (.func 90) #[] #[])]) ⟨rfl, rfl, rfl, rfl, rfl, trivial⟩ ?_
 refine xp_loop rfl (fun m Le S' => ∃ (A B O : List Ti) (a b ao : Option Addr) (c d : Nat), m = A.length + B.length ∧ A.length + B.length + O.length ≤ A0.length + B0.length ∧ mgG (A.length + B.length) A B O = mgE A0 B0 ∧ SubE [(7, .slice ao O.length O.length), (6, .slice none 0 0), (0, .slice a A.length c), (1, .slice b B.length d), (2, .func (.func 90) #[] #[])] Le ∧ Tis S (.slice a A.length c) A ∧ Tis S (.slice b B.length d) B ∧ HoldG S [S] S' [] [gOf 50 2 Ti.cells (.slice ao O.length O.length) O]) ?_ (m := A0.length + B0.length) ⟨A0, B0, [], a0, b0, none, ca, cb, rfl, Nat.le_refl _, rfl, ⟨rfl, rfl, rfl, rfl, rfl, trivial⟩, hva, hvb, hl⟩
 clear hl; rintro m Le S' ⟨A, B, O, a, b, ao, c, d, rfl, hlen, hpr, hsub, hA, hB, hl⟩; refine xe_sub hsub ?_
 refine zg ?_
 constructor <;> intro h13
 ·
  refine xp_skip rfl ?_; refine xp_block rfl ?_
  have hpos : 0 < A.length + B.length := by have := of_decide_eq_true h13; omega
  refine xp_seq rfl (xe_cut (fun Le S' => ∃ (A1 B1 : List Ti) (a1 b1 : Option Addr) (c1 d1 : Nat), swp A B = (A1, B1) ∧ SubE [(7, .slice ao O.length O.length), (6, .slice none 0 0), (0, .slice a1 A1.length c1), (1, .slice b1 B1.length d1), (2, .func (.func 90) #[] #[])] Le ∧ Tis S (.slice a1 A1.length c1) A1 ∧ Tis S (.slice b1 B1.length d1) B1 ∧ HoldG S [S] S' [] [gOf 50 2 Ti.cells (.slice ao O.length O.length) O]) ?_ ?_)
  ·
   refine xp_seq rfl (xe_toE hl 32 (.bool (swB A B)) ?_ rfl ?_)
   ·
    refine xp_draw (idx := [0, 1, 2, 3, 4, 5, 6, 7, 8, 9, 10, 11, 12, 13, 14, 15, 16, 17, 18]) rfl (by kernel_rfl) (by kernel_rfl) ?_; refine zg ?_; refine rp_bool (d := 17) rfl (fun h17 => ?_) (fun h17 => ?_)
    ·
     refine zg ?_
     exact ⟨rfl, bl (by unfold swB; rw [h17]; rfl), sB, hl⟩
    ·
     refine zg ?_; refine rp_bool (d := 21) rfl (fun h21 => ?_) (fun h21 => ?_)
     ·
      refine zg ?_
      have hpA : 0 < A.length := by have := h17; simp at this; cases A with
       | nil => exact absurd rfl this
       | cons => simp
      have hpB : 0 < B.length := by have := of_decide_eq_true h21; omega
      obtain ⟨x, hx⟩ := nth_some hpA
      obtain ⟨y, hy⟩ := nth_some hpB
      obtain ⟨b1, o1, cs1, ha, _, hrow, htk⟩ := hA.elem hx
      obtain ⟨b2, o2, cs2, ha2, _, hrow2, htk2⟩ := hB.elem hy
      refine zg ?_
      refine zp hl rfl (spec90 y x) ?_; rintro v S1 hk1 rfl hl; refine ⟨stays_all (by kernel_rfl), ?_⟩
      refine zg ?_
      exact ⟨rfl, bl (by unfold swB; rw [h17, h21]; unfold hdT; rw [hx, hy]; rfl), sB, hl⟩
     ·
      refine zg ?_
      exact ⟨rfl, bl (by unfold swB; rw [h17, h21]; rfl), sB, hl⟩
   intro S1 hl
   refine zg ?_
   constructor <;> intro h32
   ·
    refine zg ?_
    exact ⟨rfl, B, A, b, a, d, c, by unfold swp; rw [h32]; rfl, ⟨rfl, rfl, rfl, rfl, rfl, trivial⟩, hB, hA, hl⟩
   ·
    refine xp_skip rfl ?_
    exact ⟨rfl, A, B, a, b, c, d, by unfold swp; rw [h32]; rfl, ⟨rfl, rfl, rfl, rfl, rfl, trivial⟩, hA, hB, hl⟩
  clear hl hA hB; rintro Le3 S1 ⟨A1, B1, a1, b1, c1, d1, hsw, hsub3, hA, hB, hl⟩; refine xe_sub hsub3 ?_
  obtain ⟨x, r, hxr⟩ := swp_pos hpos
  rw [hsw] at hxr
  have hxr : A1 = x :: r := hxr
  have hsl := swp_len A B
  rw [hsw, hxr] at hsl
  have hsl : r.length + 1 + B1.length = A.length + B.length := hsl
  subst hxr
  obtain ⟨bx, ox, csx, hax, _, hrowx, htkx⟩ := hA.elem (k := 0) (x := x) rfl
  refine xp_seq rfl (xe_cut (fun Le S' => ∃ (O1 : List Ti) (ao1 : Option Addr), O1 = psh O x ∧ O1.length ≤ O.length + 1 ∧ SubE [(7, .slice ao1 O1.length O1.length), (6, .slice none 0 0), (0, .slice a1 (x :: r).length c1), (1, .slice b1 B1.length d1), (2, .func (.func 90) #[] #[])] Le ∧ HoldG S [S] S' [] [gOf 50 2 Ti.cells (.slice ao1 O1.length O1.length) O1]) ?_ ?_)
  ·
   refine xp_seq rfl (xe_toE hl 49 (.bool (psB O x)) ?_ rfl ?_)
   ·
    refine xp_draw (idx := [0, 1, 2, 3, 4, 5, 6, 7, 8, 9, 10, 11, 12, 13, 14]) rfl (by kernel_rfl) (by kernel_rfl) ?_; refine zg ?_; refine rp_bool (d := 38) rfl (fun h38 => ?_) (fun h38 => ?_)
    ·
     refine zg ?_
     exact ⟨rfl, bl (by unfold psB; rw [h38]; rfl), sB, hl⟩
    ·
     iterate 2 refine pm rfl ?_
     refine pk rfl (rd_len rfl rfl (len_slice Tryz.underlying116)) ?_
     have hpO : 0 < O.length := by have := h38; simp at this; cases O with
      | nil => exact absurd rfl this
      | cons => simp
     obtain ⟨y, hy⟩ := nth_some (l := O) (i := O.length - 1) (by omega)
     have hO := Grow.ls (f := Ti.cells) (z := 2) (e := 50) (v := .slice ao O.length O.length) (C := O) (fun _ => rfl) (hl.gr _ (List.mem_cons_self ..))
     obtain ⟨b2, o2, cs2, ha2, _, hrow2, htk2⟩ := hO.elem hy
     rw [show O.length - 1 = ((O.length : Int) - 1).toNat by omega] at htk2
     refine pr rfl (rd_bin rfl rfl rfl (i6 (by omega))) ?_; refine pr rfl (rd_indexAddr rfl rfl rfl (indexAddr_sl (z := 2) ha2 Tryz.underlying116 (by kernel_rfl) ⟨by omega, by first | omega | (simp only [List.length_cons]; omega)⟩)) ?_; refine pk rfl (rd_load rfl rfl (lR (z := 2) hrow2 htk2)) ?_; refine pm rfl ?_; refine pr rfl (rd_indexAddr rfl rfl rfl (indexAddr_sl (z := 2) hax Tryz.underlying116 (by kernel_rfl) ⟨by omega, by first | omega | (simp only [List.length_cons]; omega)⟩)) ?_; refine pk rfl (rd_load rfl rfl (lR (z := 2) (row_move (hl.since 0 rfl) hrowx) htkx)) ?_
     refine pr rfl (rd_bin rfl rfl rfl (neTime _ _ y x)) ?_; refine pm rfl ?_; refine rp_end rfl ?_
     exact ⟨rfl, bl (by unfold psB; rw [h38, hy]; rfl), sB, hl⟩
   intro S1 hl
   refine zg ?_
   constructor <;> intro h49
   ·
    refine xg (by kernel_rfl) ?_; iterate 2 refine rm rfl ?_
    refine rr rfl (rd_indexAddr rfl rfl rfl (indexAddr_sl (z := 2) hax Tryz.underlying116 (by kernel_rfl) ⟨by omega, by first | omega | (simp only [List.length_cons]; omega)⟩)) ?_; refine rr rfl (rd_load rfl rfl (lR (z := 2) (row_move (hl.since 0 rfl) hrowx) htkx)) ?_; refine re_buildSliceR hl rfl rfl rfl rfl rfl Tryz.underlying116 rfl (c := x.cells) (by kernel_rfl) ?_; intro B54 S1 hr54 hl
    refine re_appendG hl 0 rfl rfl (by simp) rfl rfl rfl rfl rfl rfl rfl Tryz.underlying116 Tryz.underlying116 rfl rfl (by kernel_rfl) (src_row (new := x.cells) hr54 rfl) rfl rfl (by kernel_rfl) (by show O.length + 1 ≤ maxNeed; unfold maxNeed; omega) ?_; intro v55 S1 hl
    obtain ⟨av3, rfl⟩ : ∃ av3, v55 = .slice av3 (O.length + 1) (O.length + 1) := Grow.is (hl.gr _ (List.mem_cons_self ..))
    refine zg ?_
    refine ⟨rfl, O ++ [x], av3, by unfold psh; rw [h49]; rfl, by rw [List.length_append]; exact Nat.le_refl _, ⟨congrArg some (congrArg (fun n => Value.slice av3 n n) (by rw [List.length_append]; rfl)), rfl, rfl, rfl, rfl, trivial⟩, ?_⟩
    rw [gOf_push]
    exact hl
   ·
    refine zg ?_
    exact ⟨rfl, O, ao, by unfold psh; rw [h49]; rfl, by omega, ⟨rfl, rfl, rfl, rfl, rfl, trivial⟩, hl⟩
  clear hl; rintro Le4 S1 ⟨O1, ao1, hO1, hlO, hsub4, hl⟩; refine xe_sub hsub4 ?_
  obtain ⟨a2, c2, hslc, hA2⟩ := hA.tail (t := 116) (P := Tryz.prog) (hl.since 0 rfl) Tryz.underlying116 (by kernel_rfl)
  refine zg ?_; refine rr rfl (rd_slice rfl rfl rfl rfl rfl hslc) ?_; refine zg ?_
  refine ⟨r.length + B1.length, by omega, r, B1, O1, a2, b1, ao1, c2, d1, rfl, by omega, ?_, ⟨rfl, rfl, rfl, rfl, rfl, trivial⟩, hA2, hB, hl⟩
  rw [← hpr, ← hsl, show r.length + 1 + B1.length = (r.length + B1.length) + 1 by omega, mg_step hsw rfl, hO1]
 ·
  refine zg ?_
  refine y1 rfl ⟨hl.keep, (mg_end hpr (by have := of_decide_eq_false h13; omega) (hl.gr _ (List.mem_cons_self ..)))⟩
end Go.Proofs.YtgiibikieblicaaGreatDoor
namespace Go.Proofs.YtgiibikieblicaaGreatDoor
open Go.Cm Go
set_option maxRecDepth 100000
variable {S : St}
theorem psh_len (O : List Ti) (x : Ti) : (psh O x).length ≤ O.length + 1 := by
 unfold psh
 cases psB O x with
 | true => show (O ++ [x]).length ≤ _; rw [List.length_append]; exact Nat.le_refl _
 | false => show O.length ≤ _; omega
theorem mgG_len : ∀ (n : Nat) (A B O : List Ti), (mgG n A B O).length ≤ O.length + n
 | 0, _, _, O => Nat.le_refl _
 | n + 1, A, B, O => by
  rw [mgG]
  split
  ·omega
  ·rename_i x r h
   have := mgG_len n r (swp A B).2 (psh O x)
   have := psh_len O x
   omega
theorem mgE_len (A B : List Ti) : (mgE A B).length ≤ A.length + B.length := by
 have := mgG_len (A.length + B.length) A B []
 unfold mgE
 simpa using this
def owE (v : List Ev) : List Ti := v.map Ev.at_ ++ bif decide ((v.length : Int) > 0) then [(endE v).1] else []
theorem ow_1 {v : List Ev} (h : decide ((v.length : Int) > 0) = true) : owE v = v.map Ev.at_ ++ [(endE v).1] := by unfold owE; rw [h]; rfl
theorem ow_2 {v : List Ev} (h : decide ((v.length : Int) > 0) = false) : owE v = v.map Ev.at_ := by unfold owE; rw [h]; exact List.append_nil _
theorem ow_len (v : List Ev) : (owE v).length ≤ v.length + 1 := by
 cases h : decide ((v.length : Int) > 0) with
 | true => rw [ow_1 h]; simp
 | false => rw [ow_2 h]; simp
theorem mo_step {v : List Ev} {r : List (List Ev)} {O : List Ti} : moG (v :: r) O = moG r (mgE O (owE v)) := rfl
theorem HoldG.shrink {S0 S : St} {Ts Us : List St} {l l' : List (Nat × Blk)} {gs gs' : List Gr} (h : HoldG S0 Ts S l gs) (hl : l'.Sublist l) (hg : ∀ g, g ∈ gs' → g ∈ gs) (ht : ∀ T, T ∈ Us → T ∈ Ts) : HoldG S0 Us S l' gs' :=
 ⟨h.keep, ((hl.map (·.1)).nodup h.nd), fun b x hx => h.at_ b x (hl.subset hx), fun T hT => h.rk T (ht T hT), fun g hgg => h.gr g (hg g hgg)⟩
theorem mo_end {S S' : St} {V : List (List Ev)} {O : List Ti} {ao : Option Addr} {i : Nat} (hp : moG (V.drop i) O = moE V) (h : V.length ≤ i) (hg : Grow S S' (gOf 50 2 Ti.cells (.slice ao O.length O.length) O)) : ∃ av, (tupV [.slice ao O.length O.length] : Value) = .slice av (moE V).length (moE V).length ∧ Grow S S' (gOf 50 2 Ti.cells (.slice av (moE V).length (moE V).length) (moE V)) := by
 rw [List.drop_eq_nil_of_le h] at hp
 have he : moE V = O := hp.symm
 rw [he]
 exact ⟨ao, rfl, hg⟩
noncomputable def cd88 : Code := Tryz.f88.body.getD .skip
theorem spec88 (a : Option Addr) (cap : Nat) (V : List (List Ev)) (hF : Fresh S) (hn : V.length ≤ 8) (hV : ∀ x, x ∈ V → x.length ≤ 2000) (hv : Vs S (.slice a V.length cap) V) : CC Tryz.prog KK 88 [.slice a V.length cap] S (fun v S' => Keep S S' ∧ ∃ av, v = .slice av (moE V).length (moE V).length ∧ Grow S S' (gOf 50 2 Ti.cells (.slice av (moE V).length (moE V).length) (moE V))) := by
 refine cc_enter (c := cd88) (n := 46) Tryz.func88 rfl rfl rfl (by kernel_rfl) rfl rfl ?_
 have hl := Hold.start S
 iterate 2 refine zS ?_
 refine xp_seq rfl ?_; refine zS ?_; refine xp_block rfl ?_
 -- LOOP
 refine xe_sub (L' := [(13, .int .i64 0), (12, .int .i64 V.length), (11, .slice a V.length cap), (3, .slice none ([] : List Ti).length ([] : List Ti).length), (2, .slice none 0 0)]) ⟨rfl, rfl, rfl, rfl, rfl, trivial⟩ ?_
 refine xp_loop rfl (fun m Le S' => ∃ (i : Nat) (O : List Ti) (ao : Option Addr), i ≤ V.length ∧ m = V.length - i ∧ O.length ≤ 2001 * i ∧ moG (V.drop i) O = moE V ∧ SubE [(13, .int .i64 (i : Int)), (12, .int .i64 V.length), (11, .slice a V.length cap), (3, .slice ao O.length O.length), (2, .slice none 0 0)] Le ∧ Grow S S' (gOf 50 2 Ti.cells (.slice ao O.length O.length) O) ∧ HoldG S [S] S' [] []) ?_ (m := V.length) ⟨0, [], none, by omega, rfl, by simp, rfl, ⟨rfl, rfl, rfl, rfl, rfl, trivial⟩, .inl ⟨rfl, rfl, rfl⟩, hl⟩
 clear hl; rintro m Le Sh ⟨i, O, ao, hi, rfl, hO, hpr, hsub, hOG, hl⟩; refine xe_sub hsub ?_
 refine zg ?_
 constructor <;> intro h14
 ·
  have hOT := Grow.ls (f := Ti.cells) (v := .slice ao O.length O.length) (C := O) (e := 50) (z := 2) (fun _ => rfl) hOG
  have hl := hl.mark
  have hlt : i < V.length := by have := of_decide_eq_true h14; omega
  obtain ⟨x, hx⟩ := nth_some hlt
  obtain ⟨b1, o1, cs1, aw, cw, ha, _, hrow, htk, hvx⟩ := hv.elem hx
  have hxl : x.length ≤ 2000 := hV x (nth_mem hx)
  rw [drop_nth' hx, mo_step] at hpr
  refine xp_skip rfl ?_; refine xp_seq rfl ?_; refine xp_block rfl ?_; iterate 2 refine zS ?_
  refine xp_seq rfl ?_; refine zS ?_; refine xp_block rfl ?_
  -- LOOP
  have hl := hl.addG (g := gOf 50 2 Ti.cells (.slice none 0 0) []) (.inl ⟨rfl, rfl, rfl⟩)
  refine xe_sub (L' := [(19, .int .i64 0), (18, .int .i64 x.length), (17, .slice aw x.length cw), (6, .slice none ([] : List Ti).length ([] : List Ti).length), (5, .slice aw x.length cw), (13, .int .i64 (i : Int)), (12, .int .i64 V.length), (11, .slice a V.length cap), (3, .slice ao O.length O.length), (2, .slice none 0 0)]) ⟨rfl, rfl, rfl, rfl, rfl, rfl, rfl, rfl, rfl, rfl, trivial⟩ ?_
  refine xp_loop rfl (fun m Le S' => ∃ (k : Nat) (Q : List Ti) (ap : Option Addr), k ≤ x.length ∧ m = x.length - k ∧ Q = ((x.take k).map Ev.at_) ∧ Q.length = k ∧ SubE [(19, .int .i64 (k : Int)), (18, .int .i64 x.length), (17, .slice aw x.length cw), (6, .slice ap Q.length Q.length), (5, .slice aw x.length cw), (13, .int .i64 (i : Int)), (12, .int .i64 V.length), (11, .slice a V.length cap), (3, .slice ao O.length O.length), (2, .slice none 0 0)] Le ∧ HoldG S [Sh, S] S' [] [gOf 50 2 Ti.cells (.slice ap Q.length Q.length) Q]) ?_ (m := x.length) ⟨0, [], none, by omega, rfl, rfl, rfl, ⟨rfl, rfl, rfl, rfl, rfl, rfl, rfl, rfl, rfl, rfl, trivial⟩, hl⟩
  clear hl; rintro m Le S' ⟨k, Q, ap, hk, rfl, hQ, hQl, hsub2, hl⟩; refine xe_sub hsub2 ?_
  refine zg ?_
  constructor <;> intro h20
  ·
   have hlt2 : k < x.length := by have := of_decide_eq_true h20; omega
   obtain ⟨y, hy⟩ := nth_some hlt2
   obtain ⟨b2, o2, cs2, ha2, _, hrow2, htk2⟩ := hvx.elem hy
   refine zg ?_; refine re_allocL hl rfl rfl rfl rfl rfl (z := [.int .i64 0, .int .i64 0, .int .i64 0, .int .i64 0, .int .i64 0, .int .i64 0, .int .i64 0, .bool false, .int .i64 0, .int .i64 0]) (by kernel_rfl) ?_; intro B8 S8 hl; refine re_storeL hl 0 rfl rfl rfl rfl rfl rfl rfl (by kernel_rfl) rfl ?_; intro S1 hl; refine zg ?_; refine re_buildSliceR hl rfl rfl rfl rfl rfl Tryz.underlying116 rfl (c := y.at_.cells) (by kernel_rfl) ?_; intro B26 S1 hr26 hl
   refine re_appendG hl 0 rfl rfl (by simp) rfl rfl rfl rfl rfl rfl rfl Tryz.underlying116 Tryz.underlying116 rfl rfl (by kernel_rfl) (src_row (new := y.at_.cells) hr26 rfl) rfl rfl (by kernel_rfl) (by show Q.length + 1 ≤ maxNeed; unfold maxNeed; omega) ?_; intro v27 S1 hl
   obtain ⟨av3, rfl⟩ : ∃ av3, v27 = .slice av3 (Q.length + 1) (Q.length + 1) := Grow.is (hl.gr _ (List.mem_cons_self ..))
   refine zg ?_
   refine ⟨x.length - (k + 1), by omega, k + 1, Q ++ [y.at_], av3, by omega, rfl, by rw [hQ, take_nth' hy, List.map_append]; rfl, by rw [List.length_append, hQl]; rfl, ⟨rfl, rfl, rfl, congrArg some (congrArg (fun n => Value.slice av3 n n) (by rw [List.length_append]; rfl)), rfl, rfl, rfl, rfl, rfl, rfl, trivial⟩, ?_⟩
   rw [gOf_push]
   exact hl.tail
  ·
   have hQx : Q = x.map Ev.at_ := by rw [hQ, List.take_of_length_le (by have := of_decide_eq_false h20; omega)]
   refine zg ?_
   refine zc hl rfl (spec91 aw cw x (hl.keep.3 hF) (hvx.move (hl.since 1 rfl))) ?_; rintro v S1 hk1 rfl hl
   refine zg ?_; refine re_allocL hl rfl rfl rfl rfl rfl (z := [.int .i64 0, .int .i64 0]) (by kernel_rfl) ?_; intro B9 S9 hl; refine re_storeL hl 0 rfl rfl rfl rfl rfl rfl rfl (by kernel_rfl) rfl ?_; intro S1 hl; refine zA ?_
   refine xp_seq rfl (xe_cut (fun Le S' => ∃ (Q2 : List Ti) (ap2 : Option Addr), Q2 = owE x ∧ SubE [(18, .int .i64 x.length), (17, .slice aw x.length cw), (6, .slice ap2 Q2.length Q2.length), (5, .slice aw x.length cw), (13, .int .i64 (i : Int)), (12, .int .i64 V.length), (11, .slice a V.length cap), (3, .slice ao O.length O.length), (2, .slice none 0 0)] Le ∧ HoldG S [Sh, S] S' [(B9, .cells (endE x).1.cells 50 false true [])] [gOf 50 2 Ti.cells (.slice ap2 Q2.length Q2.length) Q2]) ?_ ?_)
   ·
    refine zg ?_
    constructor <;> intro h36
    ·
     refine zg ?_; refine re_buildSliceR hl rfl rfl rfl rfl rfl Tryz.underlying116 rfl (c := (endE x).1.cells) (by kernel_rfl) ?_; intro B39 S1 hr39 hl; refine re_appendG hl 0 rfl rfl (by simp) rfl rfl rfl rfl rfl rfl rfl Tryz.underlying116 Tryz.underlying116 rfl rfl (by kernel_rfl) (src_row (new := (endE x).1.cells) hr39 rfl) rfl rfl (by kernel_rfl) (by show Q.length + 1 ≤ maxNeed; unfold maxNeed; omega) ?_; intro v40 S1 hl
     obtain ⟨av3, rfl⟩ : ∃ av3, v40 = .slice av3 (Q.length + 1) (Q.length + 1) := Grow.is (hl.gr _ (List.mem_cons_self ..))
     refine zg ?_
     refine ⟨rfl, Q ++ [(endE x).1], av3, by rw [ow_1 h36, hQx], ⟨rfl, rfl, congrArg some (congrArg (fun n => Value.slice av3 n n) (by rw [List.length_append]; rfl)), rfl, rfl, rfl, rfl, rfl, rfl, trivial⟩, ?_⟩
     rw [gOf_push]
     exact hl
    ·
     refine zg ?_
     exact ⟨rfl, Q, ap, by rw [ow_2 h36, hQx], ⟨rfl, rfl, rfl, rfl, rfl, rfl, rfl, rfl, rfl, trivial⟩, hl⟩
   clear hl; rintro Le3 S1 ⟨Q2, ap2, hQ2, hsub3, hl⟩; refine xe_sub hsub3 ?_
   have hQl2 : Q2.length ≤ 2001 := by rw [hQ2]; have := ow_len x; omega
   refine zg ?_
   refine zc hl rfl (spec117 ao ap2 O.length Q2.length O Q2 (hl.keep.3 hF) (by omega) (hOT.move (hl.since 0 rfl)) (Grow.ls (f := Ti.cells) (fun _ => rfl) (hl.gr _ (List.mem_cons_self ..)))) ?_; have hle := hl.keep.1; rintro v S1 hk1 ⟨av4, rfl, hg⟩ hl
   refine zg ?_
   refine ⟨V.length - (i + 1), by omega, i + 1, mgE O Q2, av4, by omega, rfl, by have := mgE_len O Q2; omega, by rw [hQ2]; exact hpr, ⟨rfl, rfl, rfl, rfl, rfl, trivial⟩, Grow.base hg hle, ?_⟩
   exact HoldG.shrink hl (l' := []) (Us := [S]) (gs' := []) (List.nil_sublist _) (fun g hg => (List.not_mem_nil hg).elim) (fun T hT => List.mem_cons_of_mem _ hT)
 ·
  refine zg ?_
  refine y1 rfl ⟨hl.keep, (mo_end hpr (by have := of_decide_eq_false h14; omega) hOG)⟩
end Go.Proofs.YtgiibikieblicaaGreatDoor
namespace Go.Proofs.YtgiibikieblicaaGreatDoor
open Go.Cm Go
set_option maxRecDepth 100000
variable {S : St}
structure Sl where
 at_ : Ti
 dur : Ti
 ev : List Int
def slC (x : Sl × Value) : List Value := [.int .i64 x.1.at_.n, .int .i64 x.1.at_.d, .int .i64 x.1.dur.n, .int .i64 x.1.dur.d, x.2]
noncomputable def cSl : Code := Tryz.f39.body.getD .skip
noncomputable def rf : Code := pA (Cm.pB (pA (Cm.pB (Cm.pB (Cm.pB cSl)))))
structure Fr where
 lb : Nat
 db : Nat
 bp : Nat
 b2 : Nat
 b3 : Nat
 b6 : Nat
 t : Tm
 cp : Value
noncomputable def Fr.l (z : Fr) (ov : Value) : List (Nat × Blk) := [(z.b6, .cells [ov] 71 false true []), (z.b3, .cells [.int .i64 0] 29 false true []), (z.b2, .cells [.slice none 0 0] 71 false true []), (z.lb, .loop .ready none 29 z.t (rgP rf) (rgA rf) (rgB rf) z.db), (z.db, .defs false), (z.bp, .cells [z.cp] 22 false true [])]
noncomputable def Fr.le (z : Fr) (ov : Value) (e : Int) : List (Nat × Blk) := [(z.b6, .cells [ov] 71 false true []), (z.b3, .cells [.int .i64 e] 29 false true []), (z.b2, .cells [.slice none 0 0] 71 false true []), (z.lb, .loop .done (some .ret) 29 z.t (rgP rf) (rgA rf) (rgB rf) z.db), (z.db, .defs false), (z.bp, .cells [z.cp] 22 false true [])]
theorem GB.is {v : Value} {e : TypeId} {z : Nat} {c : List Value} {m : Nat} {fr : List (Nat × Blk)} (h : GB v e z c m fr) : ∃ a, v = .slice a m m := by
 rcases h with ⟨h, _, rfl, _⟩ | ⟨b, kin, h, _⟩
 ·exact ⟨none, h⟩
 ·exact ⟨_, h⟩
def zSl : List Value := [.int .i64 0, .int .i64 0, .int .i64 0, .int .i64 0, .slice none 0 0]
def cD (D : List (Sl × Value)) : List Value := (D.map slC).flatten
theorem cD_push (D : List (Sl × Value)) (x : Sl × Value) : cD (D ++ [x]) = cD D ++ slC x := by unfold cD; simp
theorem round_ok {Sb S : St} (z : Fr) (hz : Has 29 ⟨29, z.t, []⟩ [(6, ptrTo z.b6 0), (3, ptrTo z.b3 0), (2, ptrTo z.b2 0)]) {own fo : List (Nat × Blk)} {ov : Value} {D : List (Sl × Value)} {x : Sl} {a : Option Addr} {m c : Nat} (hD : D.length ≤ 100000) (hg : GB ov 110 5 (cD D) D.length fo) (hl : HoldG Sb [Sb] S (own ++ (z.l ov ++ fo)) []) :
  CT Tryz.prog KK (.fn (.yield z.lb) #[]) [aggL (slC (x, Value.slice a m c)), .int .i64 0] S fun r S' => r = .returned (.bool true) ∧ ∃ ov' fo', GB ov' 110 5 (cD (D ++ [(x, Value.slice a m c)])) (D ++ [(x, Value.slice a m c)]).length fo' ∧ HoldG Sb [Sb] S' (own ++ (z.l ov' ++ fo')) [] := by
 have hl := hl.perm (l' := z.l ov ++ (fo ++ own)) ((List.perm_append_comm).trans (by rw [List.append_assoc]))
 refine ct_round (hl.get 3 rfl) hz rfl rfl ?_; refine zg ?_; refine re_allocL hl rfl rfl rfl rfl rfl (z := zSl) (by kernel_rfl) ?_; intro B7 S7 hl; refine re_storeL hl 0 rfl rfl rfl rfl rfl rfl rfl (by kernel_rfl) rfl ?_; intro S1 hl; refine zg ?_
 refine ⟨rfl, _, _, _, _, _, _, _, hl.get 4 rfl, ?_⟩
 have hl := hl.put (k := 4) rfl rfl (.loop .busy none 29 z.t (rgP rf) (rgA rf) (rgB rf) z.db)
 refine zg ?_
 constructor <;> intro h22
 ·exact absurd h22 (by decide)
 refine zg ?_; refine re_buildSliceR hl rfl rfl rfl rfl rfl Tryz.underlying71 rfl (c := slC (x, Value.slice a m c)) (by kernel_rfl) ?_; intro B26 S1 hr26 hl
 have hl : HoldG Sb [Sb] _ ((B7, .cells (slC (x, Value.slice a m c)) 110 false true []) :: putB 3 (.loop .busy none 29 z.t (rgP rf) (rgA rf) (rgB rf) z.db) (z.l ov) ++ (fo ++ own)) [] := hl
 have hl := hl.perm (List.perm_append_comm_assoc _ fo own)
 refine re_appendB hl hg rfl rfl rfl rfl rfl rfl rfl Tryz.underlying71 Tryz.underlying71 rfl rfl (by decide) (by kernel_rfl) (src_row (new := slC (x, Value.slice a m c)) hr26 rfl) rfl rfl (by kernel_rfl) (by show D.length + 1 ≤ maxNeed; unfold maxNeed; omega) ?_; intro ov' fo' S2 hg' hl
 have hl := hl.perm (List.perm_append_comm_assoc fo' ((B7, .cells (slC (x, Value.slice a m c)) 110 false true []) :: putB 3 (.loop .busy none 29 z.t (rgP rf) (rgA rf) (rgB rf) z.db) (z.l ov)) own)
 obtain ⟨oa, rfl⟩ := GB.is hg'
 refine re_storeL hl 1 rfl rfl rfl rfl rfl rfl rfl (by kernel_rfl) rfl ?_; intro S1 hl; refine zg ?_
 refine ⟨_, _, _, _, _, _, _, _, hl.get 4 rfl, rfl, .slice oa (D.length + 1) (D.length + 1), fo', ?_, ?_⟩
 ·rw [cD_push, List.length_append]; exact hg'
 have hl := (hl.put (k := 4) rfl rfl (.loop .ready none 29 z.t (rgP rf) (rgA rf) (rgB rf) z.db)).tail
 exact HoldG.perm (l := z.l (.slice oa (D.length + 1) (D.length + 1)) ++ (fo' ++ own)) hl ((List.Perm.of_eq (List.append_assoc _ _ _).symm).trans List.perm_append_comm)
theorem round_err {Sb S : St} (z : Fr) (hz : Has 29 ⟨29, z.t, []⟩ [(6, ptrTo z.b6 0), (3, ptrTo z.b3 0), (2, ptrTo z.b2 0)]) {own fo : List (Nat × Blk)} {ov : Value} {x : Sl} {a : Option Addr} {m c : Nat} {e : Int} (he : (e != 0) = true) (hl : HoldG Sb [Sb] S (own ++ (z.l ov ++ fo)) []) :
  CT Tryz.prog KK (.fn (.yield z.lb) #[]) [aggL (slC (x, Value.slice a m c)), .int .i64 e] S fun r S' => r = .returned (.bool false) ∧ HoldG Sb [Sb] S' (own ++ (z.le ov e ++ fo)) [] := by
 have hl := hl.perm (l' := z.l ov ++ (fo ++ own)) ((List.perm_append_comm).trans (by rw [List.append_assoc]))
 refine ct_round (hl.get 3 rfl) hz rfl rfl ?_; refine zg ?_; refine re_allocL hl rfl rfl rfl rfl rfl (z := zSl) (by kernel_rfl) ?_; intro B7 S7 hl; refine re_storeL hl 0 rfl rfl rfl rfl rfl rfl rfl (by kernel_rfl) rfl ?_; intro S1 hl; refine zg ?_
 refine ⟨rfl, _, _, _, _, _, _, _, hl.get 4 rfl, ?_⟩
 have hl := hl.put (k := 4) rfl rfl (.loop .busy none 29 z.t (rgP rf) (rgA rf) (rgB rf) z.db)
 refine zg ?_
 constructor <;> intro h22
 ·refine zg ?_
  refine re_storeL hl 3 rfl rfl rfl rfl rfl rfl rfl (by kernel_rfl) rfl ?_; intro S1 hl; refine re_storeL hl 2 rfl rfl rfl rfl rfl rfl rfl (by kernel_rfl) rfl ?_; intro S1 hl; refine zg ?_
  refine ⟨_, _, _, _, _, _, _, _, hl.get 4 rfl, rfl, ?_⟩
  have hl := (hl.put (k := 4) rfl rfl (.loop .done (some .ret) 29 z.t (rgP rf) (rgA rf) (rgB rf) z.db)).tail
  exact HoldG.perm (l := z.le ov e ++ (fo ++ own)) hl ((List.Perm.of_eq (List.append_assoc _ _ _).symm).trans List.perm_append_comm)
 ·rw [he] at h22; cases h22
end Go.Proofs.YtgiibikieblicaaGreatDoor
namespace Go.Proofs.YtgiibikieblicaaGreatDoor
open Go.Cm Go
set_option maxRecDepth 100000
variable {S : St}
def iz (k : Nat) : Value := .int .i64 (k : Int)
def atT (v : List Ev) (k : Nat) : Ti := ((nth v k).map Ev.at_).getD zT
def advB (v : List Ev) (t : Ti) (k : Nat) : Bool := decide ((k : Int) + 1 < (v.length : Int)) && decide ((cmpE (atT v (k + 1)) t).1 ≤ 0)
def adv : Nat → List Ev → Ti → Nat → Nat
 | 0, _, _, k => k
 | f + 1, v, t, k => bif advB v t k then adv f v t (k + 1) else k
def advE (v : List Ev) (t : Ti) (k : Nat) : Nat := adv (v.length - k) v t k
theorem advB_lt {v : List Ev} {t : Ti} {k : Nat} (h : advB v t k = true) : k + 1 < v.length := by
 unfold advB at h
 rw [Bool.and_eq_true] at h
 have := of_decide_eq_true h.1
 omega
theorem advE_go {v : List Ev} {t : Ti} {k : Nat} (h : advB v t k = true) : advE v t k = advE v t (k + 1) := by
 have hl := advB_lt h
 unfold advE
 rw [show v.length - k = (v.length - (k + 1)) + 1 by omega, adv, h]
 rfl
theorem advE_stop {v : List Ev} {t : Ti} {k : Nat} (h : advB v t k = false) : advE v t k = k := by
 unfold advE
 cases v.length - k with
 | zero => rfl
 | succ f => rw [adv, h]; rfl
theorem adv_le : ∀ (f : Nat) (v : List Ev) (t : Ti) (k : Nat), k ≤ v.length → adv f v t k ≤ v.length
 | 0, _, _, _, h => h
 | f + 1, v, t, k, h => by
  rw [adv]
  cases hb : advB v t k with
  | true => exact adv_le f v t (k + 1) (by have := advB_lt hb; omega)
  | false => exact h
def hrE (v : List Ev) (t : Ti) (k : Nat) : Int := bif decide ((cmpE (endE v).1 t).1 ≤ 0) then -1 else (k : Int)
def upd (V : List (List Ev)) (t : Ti) (A : List Nat) : List Nat := List.zipWith (fun v k => advE v t k) V A
def evs (V : List (List Ev)) (t : Ti) (A : List Nat) : List Int := List.zipWith (fun v k => hrE v t (advE v t k)) V A
def slG (V : List (List Ev)) : List Ti → List Nat → List Sl × Int
 | t :: u :: r, A => bif (subE u t).2 != 0 then ([], (subE u t).2) else (⟨t, (subE u t).1, evs V t A⟩ :: (slG V (u :: r) (upd V t A)).1, (slG V (u :: r) (upd V t A)).2)
 | _, _ => ([], 0)
def slE (V : List (List Ev)) : List Sl × Int := slG V (moE V) (V.map fun _ => 0)
theorem slG_1 {V : List (List Ev)} {t u : Ti} {r : List Ti} {A : List Nat} (h : ((subE u t).2 != 0) = true) : slG V (t :: u :: r) A = ([], (subE u t).2) := by rw [slG, h]; rfl
theorem slG_2 {V : List (List Ev)} {t u : Ti} {r : List Ti} {A : List Nat} (h : ((subE u t).2 != 0) = false) : slG V (t :: u :: r) A = (⟨t, (subE u t).1, evs V t A⟩ :: (slG V (u :: r) (upd V t A)).1, (slG V (u :: r) (upd V t A)).2) := by rw [slG, h]; rfl
theorem slG_end {V : List (List Ev)} {l : List Ti} {A : List Nat} (h : l.length ≤ 1) : slG V l A = ([], 0) := by
 match l, h with
 | [], _ => rfl
 | [_], _ => rfl
 | _ :: _ :: _, h => simp at h
def EvIn (x : Sl × Value) (rest : List (Nat × Blk)) : Prop := ∃ fr, GB x.2 3 1 (x.1.ev.map (Value.int .i64)) x.1.ev.length fr ∧ ∀ p, p ∈ fr → p ∈ rest
theorem EvIn.mono {x : Sl × Value} {r r' : List (Nat × Blk)} (h : EvIn x r) (hs : ∀ p, p ∈ r → p ∈ r') : EvIn x r' := by
 obtain ⟨fr, h1, h2⟩ := h
 exact ⟨fr, h1, fun p hp => hs p (h2 p hp)⟩
def SlQ (Sb : St) (z : Fr) (V : List (List Ev)) (S' : St) : Prop := ((slE V).2 = 0 ∧ ∃ (D : List (Sl × Value)) (ov : Value) (fo rest : List (Nat × Blk)), D.map (·.1) = (slE V).1 ∧ (∀ x, x ∈ D → EvIn x rest) ∧ GB ov 110 5 (cD D) D.length fo ∧ HoldG Sb [Sb] S' (z.l ov ++ (fo ++ rest)) []) ∨
 ((slE V).2 ≠ 0 ∧ ∃ (ov : Value) (rest : List (Nat × Blk)), HoldG Sb [Sb] S' (z.le ov (slE V).2 ++ rest) [])
theorem perm5 {α : Type} (A Z B F O R : List α) : (A ++ (Z ++ (B ++ (F ++ (O ++ R))))).Perm ((A ++ (B ++ (F ++ R))) ++ (Z ++ O)) := by
 classical
 rw [List.perm_iff_count]
 intro a
 simp only [List.count_append]
 omega
theorem perm6 {α : Type} (A C Z B F O R : List α) : (((A ++ C) ++ (B ++ (F ++ R))) ++ (Z ++ O)).Perm (C ++ (Z ++ (B ++ (O ++ (F ++ (A ++ R)))))) := by
 classical
 rw [List.perm_iff_count]
 intro a
 simp only [List.count_append]
 omega
theorem perm7 {α : Type} (A Z O : List α) : (A ++ (Z ++ O)).Perm (Z ++ (O ++ A)) := by
 classical
 rw [List.perm_iff_count]
 intro a
 simp only [List.count_append]
 omega
theorem perm8 {α : Type} (C Z B O R : List α) : (C ++ (Z ++ (B ++ (O ++ R)))).Perm (Z ++ (O ++ (C ++ (B ++ R)))) := by
 classical
 rw [List.perm_iff_count]
 intro a
 simp only [List.count_append]
 omega
theorem tk_part {z w o j : Nat} {c l l2 : List Value} (h : takeN z (dropN o c) = some l) (hj : takeN w (dropN j l) = some l2) : takeN w (dropN (o + j) c) = some l2 := by
 obtain ⟨_, h1, e⟩ := takeN_spec _ _ _ h
 obtain ⟨_, h2, e2⟩ := takeN_spec _ _ _ hj
 subst e
 rw [dropN_add]
 generalize dropN o c = X at *
 rw [dropN_eq] at h2 e2 ⊢
 rw [List.drop_take] at e2 h2
 have h3 : w ≤ z - j := by rw [List.length_take] at h2; omega
 rw [List.take_take, Nat.min_eq_left h3] at e2
 rw [takeN_some _ _ (by rw [List.length_take] at h2; omega), e2]
theorem nth_mid {α : Type} : ∀ {a b : List α} {x : α}, nth (a ++ x :: b) a.length = some x
 | [], _, _ => rfl
 | _ :: a, b, x => nth_mid (a := a)
theorem HoldG.grow {S0 S S' : St} {l : List (Nat × Blk)} {g : Gr} (hl : HoldG S0 [S0] S l []) (hk : Keep S S') (hg : Grow S S' g) : ∃ fr, GB g.v g.e g.z g.c g.n fr ∧ HoldG S0 [S0] S' (fr ++ l) [] := by
 have h2 := hl.call hk
 rcases hg with ⟨h, hc, hn⟩ | ⟨b, kin, h1, hb, hb2, hgt, hlen⟩
 ·exact ⟨[], .inl ⟨h, hc, hn, rfl⟩, h2⟩
 ·refine ⟨[(b, .cells g.c g.e true true kin)], .inr ⟨b, kin, h1, hlen, rfl⟩, h2.keep, ?_, fun c y hc => ?_, h2.rk, fun g hg => (List.not_mem_nil hg).elim⟩
  ·refine List.nodup_cons.2 ⟨fun hm => ?_, h2.nd⟩
   obtain ⟨⟨c, y⟩, hc, rfl⟩ := List.mem_map.1 hm
   have := (hl.at_ c y hc).2.2
   have hb' : S.size ≤ c := hb
   omega
  ·rcases List.mem_cons.1 hc with e | hc
   ·cases e
    exact ⟨hgt, Nat.le_trans hl.keep.1 hb, hb2⟩
   ·exact h2.at_ c y hc
theorem nth_zip {α β γ : Type} (f : α → β → γ) : ∀ {l : List α} {r : List β} {i : Nat} {x : α} {y : β}, nth l i = some x → nth r i = some y → nth (List.zipWith f l r) i = some (f x y)
 | _ :: _, _ :: _, 0, _, _, h, k => by cases h; cases k; rfl
 | _ :: l, _ :: r, i + 1, x, y, h, k => nth_zip f (l := l) (r := r) (i := i) h k
theorem repl_iz : ∀ V : List (List Ev), replL V.length [Value.int .i64 0] = (V.map fun _ => 0).map iz
 | [] => rfl
 | _ :: V => by
  show [Value.int .i64 0] ++ replL V.length [Value.int .i64 0] = _
  rw [repl_iz V]
  rfl
theorem sl_done {Sb S' : St} {z : Fr} {V : List (List Ev)} {n : Nat} {A : List Nat} {D : List (Sl × Value)} {ov : Value} {fo rest fa C : List (Nat × Blk)} (hn : (moE V).length ≤ n + 1) (h1 : (slE V).1 = D.map (·.1) ++ (slG V ((moE V).drop n) A).1) (h2 : (slE V).2 = (slG V ((moE V).drop n) A).2) (hE : ∀ x, x ∈ D → EvIn x rest) (hg : GB ov 110 5 (cD D) D.length fo) (hl : HoldG Sb [Sb] S' (C ++ (z.l ov ++ (fa ++ (fo ++ rest)))) []) : SlQ Sb z V S' := by
 have e : slG V ((moE V).drop n) A = ([], 0) := slG_end (by rw [List.length_drop]; omega)
 rw [e] at h1 h2
 refine .inl ⟨h2, D, ov, fo, C ++ (fa ++ rest), by rw [h1]; exact (List.append_nil _).symm, fun x hx => (hE x hx).mono fun p hp => by simp [hp], hg, hl.perm (perm8 C (z.l ov) fa fo rest)⟩
theorem nth_unmap2 {α β : Type} {f : α → β} : ∀ {l : List α} {k : Nat} {y : β}, nth (l.map f) k = some y → ∃ x, nth l k = some x ∧ y = f x
 | [], _, _, h => by cases h
 | x :: _, 0, y, h => by cases h; exact ⟨x, rfl, rfl⟩
 | _ :: l, k + 1, y, h => nth_unmap2 (l := l) (k := k) h
theorem nth_at {P Q : List Nat} {k j : Nat} (h : P.length = j) : nth ((P ++ k :: Q).map iz) (0 + ((j : Nat) : Int).toNat * 1) = some (.int .i64 (k : Int)) := by
 subst h
 rw [List.map_append, List.map_cons, show 0 + ((P.length : Nat) : Int).toNat * 1 = (P.map iz).length by rw [List.length_map]; omega]
 exact nth_mid
theorem set_at {P Q : List Nat} {k k2 j : Nat} (h : P.length = j) : setN (0 + ((j : Nat) : Int).toNat * 1) (cellsL (.int .i64 (k2 : Int))) ((P ++ k :: Q).map iz) = some ((P ++ k2 :: Q).map iz) := by
 subst h
 rw [List.map_append, List.map_cons, show 0 + ((P.length : Nat) : Int).toNat * 1 = (P.map iz).length by rw [List.length_map]; omega, List.map_append, List.map_cons]
 exact setN_mid _
theorem moG_len : ∀ (V : List (List Ev)) (O : List Ti), (∀ x, x ∈ V → x.length ≤ 2000) → (moG V O).length ≤ O.length + 2001 * V.length
 | [], O, _ => by show O.length ≤ _; omega
 | v :: r, O, h => by
  rw [mo_step]
  have h1 := moG_len r (mgE O (owE v)) (fun x hx => h x (List.mem_cons_of_mem _ hx))
  have h2 := mgE_len O (owE v)
  have h3 := ow_len v
  have h4 := h v (List.mem_cons_self ..)
  rw [List.length_cons]
  omega
theorem moE_len {V : List (List Ev)} (hn : V.length ≤ 8) (h : ∀ x, x ∈ V → x.length ≤ 2000) : (moE V).length ≤ 20000 := by
 have := moG_len V [] h
 unfold moE
 simp at this
 omega
theorem round_ok0 {Sb S : St} (z : Fr) (hz : Has 29 ⟨29, z.t, []⟩ [(6, ptrTo z.b6 0), (3, ptrTo z.b3 0), (2, ptrTo z.b2 0)]) {own fo : List (Nat × Blk)} {ov : Value} {D : List (Sl × Value)} {x : Sl} {a : Option Addr} {m c : Nat} {e : Int} (he : e = 0) (hD : D.length ≤ 100000) (hg : GB ov 110 5 (cD D) D.length fo) (hl : HoldG Sb [Sb] S (own ++ (z.l ov ++ fo)) []) :
  CT Tryz.prog KK (.fn (.yield z.lb) #[]) [aggL (slC (x, .slice a m c)), .int .i64 e] S fun r S' => r = .returned (.bool true) ∧ ∃ ov' fo', GB ov' 110 5 (cD (D ++ [(x, Value.slice a m c)])) (D ++ [(x, Value.slice a m c)]).length fo' ∧ HoldG Sb [Sb] S' (own ++ (z.l ov' ++ fo')) [] := by
 subst he
 exact round_ok z hz hD hg hl
theorem hr_1 {v : List Ev} {t : Ti} {k : Nat} (h : decide ((cmpE (endE v).1 t).1 ≤ 0) = true) : (-1 : Int) = hrE v t k := by unfold hrE; rw [h]; rfl
theorem hr_2 {v : List Ev} {t : Ti} {k : Nat} (h : decide ((cmpE (endE v).1 t).1 ≤ 0) = false) : (k : Int) = hrE v t k := by unfold hrE; rw [h]; rfl
theorem upd_ok {V : List (List Ev)} {t : Ti} {A : List Nat} (hl : A.length = V.length) (hA : ∀ j k x, nth A j = some k → nth V j = some x → k ≤ x.length) : (upd V t A).length = V.length ∧ ∀ j k x, nth (upd V t A) j = some k → nth V j = some x → k ≤ x.length := by
 refine ⟨by unfold upd; rw [List.length_zipWith]; omega, fun j k x hk hx => ?_⟩
 obtain ⟨k0, hk0⟩ := nth_some (l := A) (i := j) (by have := nth_lt hx; omega)
 have h2 : nth (upd V t A) j = some (advE x t k0) := nth_zip _ hx hk0
 rw [h2] at hk
 cases hk
 exact adv_le _ _ _ _ (hA j k0 x hk0 hx)
end Go.Proofs.YtgiibikieblicaaGreatDoor
namespace Go.Proofs.YtgiibikieblicaaGreatDoor
open Go.Cm Go
set_option maxRecDepth 100000
variable {S : St}
noncomputable def c87 : Code := Tryz.f87.body.getD .skip
theorem spec87 {Sb S : St} (z : Fr) (hz : Has 29 ⟨29, z.t, []⟩ [(6, ptrTo z.b6 0), (3, ptrTo z.b3 0), (2, ptrTo z.b2 0)]) (aV : Option Addr) (cV : Nat) (V : List (List Ev)) (hcp : z.cp = .slice aV V.length cV) (hF : Fresh Sb) (hn : V.length ≤ 8) (hV : ∀ x, x ∈ V → x.length ≤ 2000) (hv : Vs Sb (.slice aV V.length cV) V) (hl : HoldG Sb [Sb] S (z.l (.slice none 0 0)) []) : CC Tryz.prog KK 87 [.func (.yield z.lb) #[] #[], ptrTo z.bp 0] S (fun v S' => v = tupV [] ∧ SlQ Sb z V S') := by
 refine cc_enter (c := c87) (n := 117) Tryz.func87 rfl rfl rfl (by kernel_rfl) rfl rfl ?_; refine xs (by kernel_rfl) ?_; refine rr rfl (rd_load rfl rfl (l1 (v := .slice aV V.length cV) (hl.get 5 rfl) (congrArg some hcp))) ?_
 refine re_callL hl rfl rfl rfl rfl rfl rfl rfl (spec88 aV cV V (hl.keep.3 hF) hn hV (hv.move (hl.since 0 rfl))) ?_; have hl0 := hl; rintro v S1 hk1 ⟨am, rfl, hgm⟩ hl; obtain ⟨fa, hfa, hl⟩ := HoldG.grow hl0 hk1 hgm; clear hgm hl0; have hl := hl.perm List.perm_append_comm
 refine rm rfl ?_; refine re_end rfl ?_; refine xs (by kernel_rfl) ?_; refine rr rfl (rd_load rfl rfl (l1 (v := .slice aV V.length cV) (hl.get 5 rfl) (congrArg some hcp))) ?_; refine rr rfl (rd_len rfl rfl (len_slice Tryz.underlying22)) ?_; refine re_makeSliceK hl rfl rfl rfl rfl rfl rfl rfl rfl rfl Tryz.underlying39 (z := .int .i64 0) (by kernel_rfl) (by kernel_rfl) (by unfold maxNeed; omega) ?_; intro B17 S1 hl; refine rm rfl ?_; refine re_end rfl ?_; refine xs (by kernel_rfl) ?_; refine rm rfl ?_; refine re_end rfl ?_; refine xp_block rfl ?_
 -- LOOP
 have hml : (moE V).length ≤ 20000 := moE_len hn hV
 rw [show cellsL (Value.int .i64 0) = [Value.int .i64 0] from rfl] at hl
 refine xe_sub (L' := [(5, .int .i64 0), (4, .slice (some ⟨B17, 0, none⟩) V.length V.length), (3, .slice am (moE V).length (moE V).length), (0, .func (.yield z.lb) #[] #[]), (1, ptrTo z.bp 0)]) ⟨rfl, rfl, rfl, rfl, rfl, trivial⟩ ?_
 refine xp_loop rfl (fun m Le S' => ∃ (n : Nat) (A : List Nat) (D : List (Sl × Value)) (ov : Value) (fo rest : List (Nat × Blk)), n ≤ (moE V).length ∧ m = (moE V).length - n ∧ A.length = V.length ∧ (∀ j k x, nth A j = some k → nth V j = some x → k ≤ x.length) ∧ D.length = n ∧ (slE V).1 = D.map (·.1) ++ (slG V ((moE V).drop n) A).1 ∧ (slE V).2 = (slG V ((moE V).drop n) A).2 ∧ (∀ x, x ∈ D → EvIn x rest) ∧ GB ov 110 5 (cD D) D.length fo ∧ SubE [(5, .int .i64 (n : Int)), (4, .slice (some ⟨B17, 0, none⟩) V.length V.length), (3, .slice am (moE V).length (moE V).length), (0, .func (.yield z.lb) #[] #[]), (1, ptrTo z.bp 0)] Le ∧ HoldG Sb [Sb] S' ((B17, Blk.cells ((A).map iz) 3 true true []) :: (z.l ov ++ (fa ++ (fo ++ rest)))) []) ?_ (m := (moE V).length) ⟨0, V.map fun _ => 0, [], .slice none 0 0, [], [], Nat.zero_le _, rfl, by simp, by intro j k x hk _; obtain ⟨y, _, e⟩ := nth_unmap2 hk; rw [e]; exact Nat.zero_le _, rfl, rfl, rfl, fun x hx => (List.not_mem_nil hx).elim, .inl ⟨rfl, rfl, rfl, rfl⟩, ⟨rfl, rfl, rfl, rfl, rfl, trivial⟩, by rw [repl_iz] at hl; simpa using hl⟩
 clear hl; rintro m Le S' ⟨n, A, D, ov, fo, rest, hnl, rfl, hAl, hA, hDn, hs1, hs2, hE, hg, hsub, hl⟩; refine xe_sub hsub ?_
 refine xp_seq rfl ?_; refine xs (by kernel_rfl) ?_; refine rm rfl ?_; refine rr rfl (rd_bin rfl rfl rfl (i6 (by omega))) ?_; refine rm rfl ?_; refine rr rfl (rd_len rfl rfl (len_slice Tryz.underlying116)) ?_; refine rr rfl (rd_bin rfl rfl rfl rfl) ?_; refine re_end rfl ?_; refine xp_cond rfl rfl (fun h22 => ?_) (fun h22 => ?_)
 ·
  have hlt : n + 1 < (moE V).length := by have := of_decide_eq_true h22; omega
  obtain ⟨t, ht⟩ := nth_some (l := moE V) (i := n) (by omega)
  obtain ⟨u, hu⟩ := nth_some hlt
  rcases hfa with ⟨_, _, h0, _⟩ | ⟨ba, kin, hva, hcl, rfl⟩
  ·have h0 : (moE V).length = 0 := h0
   omega
  have hva : Value.slice am (moE V).length (moE V).length = .slice (some ⟨ba, 0, none⟩) (moE V).length (moE V).length := hva
  injection hva with hva _ _
  subst hva
  rw [drop_nth' ht, drop_nth' hu] at hs1 hs2
  have hu2 : nth (moE V) (((n : Int) + 1)).toNat = some u := hu
  have hnn : n ≤ 20000 := by omega
  refine xp_skip rfl ?_; refine xp_seq rfl ?_; refine xp_block rfl ?_; refine xp_seq rfl ?_; refine xp_draw (idx := [0, 1, 2, 3, 4, 5, 6, 7, 8, 13, 9, 10, 11, 12, 14, 15]) rfl (by kernel_rfl) (by kernel_rfl) ?_; iterate 2 refine pm rfl ?_
  refine pr rfl (rd_bin rfl rfl rfl (i6 (by omega))) ?_; refine pr rfl (rd_indexAddr rfl rfl rfl (indexAddr_slice (z := 2) Tryz.underlying116 (by kernel_rfl) ⟨by omega, by omega⟩)) ?_; refine pk rfl (rd_load rfl rfl (lN (z := 2) (hl.get 7 rfl) (flat_take (f := Ti.cells) (fun _ => rfl) hu2))) ?_; iterate 2 refine pm rfl ?_
  refine pr rfl (rd_indexAddr rfl rfl rfl (indexAddr_slice (z := 2) Tryz.underlying116 (by kernel_rfl) ⟨by omega, by omega⟩)) ?_; refine pk rfl (rd_load rfl rfl (lN (z := 2) (hl.get 7 rfl) (flat_take (f := Ti.cells) (fun _ => rfl) ht))) ?_; refine rp_allocL hF hl rfl rfl rfl rfl rfl (z := [.int .i64 0, .int .i64 0]) (by kernel_rfl) ?_; intro B6 S6 hl
  refine rp_callL hl rfl rfl rfl rfl rfl rfl rfl (spec89 u t (hl.keep.3 hF)) ?_; rintro v S1 hk1 rfl hl; refine ⟨by repeat (first| exact trivial| refine stays_left ?_| (refine ⟨by first| exact stays_load rfl rfl (lN (z := 2) (hl.get 8 rfl) (flat_take (f := Ti.cells) (fun _ => rfl) hu2)) sG rfl| exact stays_load rfl rfl (lN (z := 2) (hl.get 8 rfl) (flat_take (f := Ti.cells) (fun _ => rfl) ht)) sG rfl| exact sN rfl (hl.get 0 rfl)| exact stays_load rfl rfl (lN (z := 2) (hl.get 0 rfl) rfl) sG rfl| exact stays_load rfl rfl (l1 (hl.get 0 rfl) rfl) sQ rfl| exact sZ, ?_⟩)), ?_⟩
  iterate 3 refine pm rfl ?_
  refine rp_storeL hl 0 rfl rfl rfl rfl rfl rfl rfl (by kernel_rfl) rfl ?_; intro S1 hl; refine ⟨stays_all (by kernel_rfl), ?_⟩
  refine pm rfl ?_; refine rp_end rfl ?_; refine xp_seq rfl ?_; refine xp_draw (idx := [0, 1, 2, 3, 4, 5, 6, 7]) rfl (by kernel_rfl) (by kernel_rfl) ?_; iterate 2 refine pm rfl ?_
  refine pr rfl (rd_indexAddr rfl rfl rfl (indexAddr_slice (z := 2) Tryz.underlying116 (by kernel_rfl) ⟨by omega, by omega⟩)) ?_; refine pk rfl (rd_load rfl rfl (lN (z := 2) (hl.get 8 rfl) (flat_take (f := Ti.cells) (fun _ => rfl) ht))) ?_; refine pk rfl (rd_load rfl rfl (lN (z := 2) (hl.get 0 rfl) rfl)) ?_; refine pr rfl (rd_build rfl rfl (v := aggL [.int .i64 t.n, .int .i64 t.d, .int .i64 (subE u t).1.n, .int .i64 (subE u t).1.d, .slice none 0 0]) (by rfl)) ?_; refine rp_allocL hF hl rfl rfl rfl rfl rfl (z := zSl) (by kernel_rfl) ?_; intro B8 S8 hl
  refine rp_storeL hl 0 rfl rfl rfl rfl rfl rfl rfl (by kernel_rfl) rfl ?_; intro S1 hl; refine ⟨stays_all (by kernel_rfl), ?_⟩
  refine rp_end rfl ?_; refine xp_seq rfl ?_; refine xs (by kernel_rfl) ?_; refine rr rfl (rd_load rfl rfl (l1 (v := .slice aV V.length cV) (hl.get 8 rfl) (congrArg some hcp))) ?_; refine rr rfl (rd_len rfl rfl (len_slice Tryz.underlying22)) ?_; refine rm rfl ?_; refine re_end rfl ?_; refine xp_block rfl ?_
  -- LOOP
  refine xe_sub (L' := [(46, .int .i64 0), (45, .int .i64 V.length), (8, ptrTo B8 0), (7, .int .i64 (subE u t).2), (5, .int .i64 (n : Int)), (4, .slice (some ⟨B17, 0, none⟩) V.length V.length), (3, .slice (some ⟨ba, 0, none⟩) (moE V).length (moE V).length), (0, .func (.yield z.lb) #[] #[]), (1, ptrTo z.bp 0)]) ⟨rfl, rfl, rfl, rfl, rfl, rfl, rfl, rfl, rfl, trivial⟩ ?_
  refine xp_loop rfl (fun m Le S' => ∃ (j : Nat) (E : List Int) (ev : Value) (fe : List (Nat × Blk)), j ≤ V.length ∧ m = V.length - j ∧ E = (evs V t A).take j ∧ E.length = j ∧ GB ev 3 1 (E.map (Value.int .i64)) E.length fe ∧ SubE [(46, .int .i64 (j : Int)), (45, .int .i64 V.length), (8, ptrTo B8 0), (7, .int .i64 (subE u t).2), (5, .int .i64 (n : Int)), (4, .slice (some ⟨B17, 0, none⟩) V.length V.length), (3, .slice (some ⟨ba, 0, none⟩) (moE V).length (moE V).length), (0, .func (.yield z.lb) #[] #[]), (1, ptrTo z.bp 0)] Le ∧ HoldG Sb [Sb] S' ((B8, Blk.cells [.int .i64 t.n, .int .i64 t.d, .int .i64 (subE u t).1.n, .int .i64 (subE u t).1.d, ev] 110 false true []) :: (B6, Blk.cells (subE u t).1.cells 50 false true []) :: (B17, Blk.cells (((upd V t A).take j ++ A.drop j).map iz) 3 true true []) :: (z.l ov ++ ([(ba, Blk.cells ((moE V).map Ti.cells).flatten 50 true true kin)] ++ (fe ++ (fo ++ rest))))) []) ?_ (m := V.length) ⟨0, [], .slice none 0 0, [], Nat.zero_le _, rfl, rfl, rfl, .inl ⟨rfl, rfl, rfl, rfl⟩, ⟨rfl, rfl, rfl, rfl, rfl, rfl, rfl, rfl, rfl, trivial⟩, hl⟩
  clear hl; rintro m Le S' ⟨j, E, ev, fe, hj, rfl, hEe, hEl, hge, hsub2, hl⟩; refine xe_sub hsub2 ?_
  refine xs (by kernel_rfl) ?_; refine rr rfl (rd_bin rfl rfl rfl rfl) ?_; refine re_end rfl ?_; refine xp_seq rfl ?_; refine xp_cond rfl rfl (fun h47 => ?_) (fun h47 => ?_)
  ·
   have hlt2 : j < V.length := by have := of_decide_eq_true h47; omega
   obtain ⟨x, hx⟩ := nth_some hlt2
   obtain ⟨k0, hk0⟩ := nth_some (l := A) (i := j) (by omega)
   obtain ⟨b1, o1, cs1, aw, cw, ha, _, hrow, htk, hvx⟩ := hv.elem hx
   have hxl : x.length ≤ 2000 := hV x (nth_mem hx)
   have hk0x := hA j k0 x hk0 hx
   have hPl : (upd V t A).length = V.length := by unfold upd; rw [List.length_zipWith]; omega
   have hPt : ((upd V t A).take j).length = j := by rw [List.length_take]; omega
   have hUj : nth (upd V t A) j = some (advE x t k0) := nth_zip _ hx hk0
   have hEj : nth (evs V t A) j = some (hrE x t (advE x t k0)) := nth_zip _ hx hk0
   rw [drop_nth' hk0] at hl
   refine xp_skip rfl ?_; refine xp_seq rfl ?_; refine xp_block rfl ?_; refine xs (by kernel_rfl) ?_; iterate 2 refine rm rfl ?_
   refine re_end rfl ?_; refine xp_seq rfl ?_; refine xp_block rfl ?_
   -- LOOP
   refine xe_sub (L' := [(9, .int .i64 (j : Int)), (46, .int .i64 (j : Int)), (45, .int .i64 V.length), (8, ptrTo B8 0), (7, .int .i64 (subE u t).2), (5, .int .i64 (n : Int)), (4, .slice (some ⟨B17, 0, none⟩) V.length V.length), (3, .slice (some ⟨ba, 0, none⟩) (moE V).length (moE V).length), (0, .func (.yield z.lb) #[] #[]), (1, ptrTo z.bp 0)]) ⟨rfl, rfl, rfl, rfl, rfl, rfl, rfl, rfl, rfl, rfl, trivial⟩ ?_
   refine xp_loop rfl (fun m Le S' => ∃ k : Nat, k ≤ x.length ∧ m = x.length - k ∧ advE x t k = advE x t k0 ∧ SubE [(9, .int .i64 (j : Int)), (46, .int .i64 (j : Int)), (45, .int .i64 V.length), (8, ptrTo B8 0), (7, .int .i64 (subE u t).2), (5, .int .i64 (n : Int)), (4, .slice (some ⟨B17, 0, none⟩) V.length V.length), (3, .slice (some ⟨ba, 0, none⟩) (moE V).length (moE V).length), (0, .func (.yield z.lb) #[] #[]), (1, ptrTo z.bp 0)] Le ∧ HoldG Sb [Sb] S' ((B8, Blk.cells [.int .i64 t.n, .int .i64 t.d, .int .i64 (subE u t).1.n, .int .i64 (subE u t).1.d, ev] 110 false true []) :: (B6, Blk.cells (subE u t).1.cells 50 false true []) :: (B17, Blk.cells (((upd V t A).take j ++ k :: A.drop (j + 1)).map iz) 3 true true []) :: (z.l ov ++ ([(ba, Blk.cells ((moE V).map Ti.cells).flatten 50 true true kin)] ++ (fe ++ (fo ++ rest))))) []) ?_ (m := x.length - k0) ⟨k0, hk0x, rfl, rfl, ⟨rfl, rfl, rfl, rfl, rfl, rfl, rfl, rfl, rfl, rfl, trivial⟩, hl⟩
   clear hl; rintro m Le S' ⟨k, hkx, rfl, hadv, hsub3, hl⟩; refine xe_sub hsub3 ?_
   have hat : ∀ k : Nat, nth (((upd V t A).take j ++ k :: A.drop (j + 1)).map iz) (0 + ((j : Nat) : Int).toNat * 1) = some (.int .i64 (k : Int)) := fun k => nth_at hPt
   refine xp_seq rfl ?_; refine xp_seq rfl (xe_toE hl 79 (.bool (advB x t k)) ?_ rfl ?_)
   ·
    refine xp_draw (idx := [0, 1, 2, 3, 4, 5, 6, 7, 8, 9, 10, 11, 12, 13, 14, 15, 16, 17, 18, 19, 20, 21, 22, 23, 24, 25, 26, 27, 28, 29, 30]) rfl (by kernel_rfl) (by kernel_rfl) ?_; iterate 2 refine pm rfl ?_
    refine pr rfl (rd_indexAddr rfl rfl rfl (indexAddr_slice (z := 1) Tryz.underlying39 (by kernel_rfl) ⟨by omega, by omega⟩)) ?_; refine pk rfl (rd_load rfl rfl (l1 (hl.get 2 rfl) (hat k))) ?_; refine pr rfl (rd_bin rfl rfl rfl (i6 (by omega))) ?_; refine pk rfl (rd_load rfl rfl (l1 (v := .slice aV V.length cV) (hl.get 8 rfl) (congrArg some hcp))) ?_; refine pm rfl ?_; refine pr rfl (rd_indexAddr rfl rfl rfl (indexAddr_sl (z := 1) ha Tryz.underlying22 (by kernel_rfl) ⟨by omega, by omega⟩)) ?_; refine pk rfl (rd_load rfl rfl (l2 (row_move (hl.since 0 rfl) hrow) htk)) ?_
    refine pk rfl (rd_len rfl rfl (len_slice Tryz.underlying27)) ?_; refine pr rfl (rd_bin rfl rfl rfl rfl) ?_; refine pm rfl ?_; refine rp_bool (d := 60) rfl (fun h60 => ?_) (fun h60 => ?_)
    ·
     refine pk rfl (rd_load rfl rfl (l1 (v := .slice aV V.length cV) (hl.get 8 rfl) (congrArg some hcp))) ?_
     have hk1 : k + 1 < x.length := by have := of_decide_eq_true h60; omega
     obtain ⟨y, hy⟩ := nth_some hk1
     obtain ⟨b2, o2, cs2, ha2, _, hrow2, htk2⟩ := hvx.elem hy
     refine pm rfl ?_; refine pr rfl (rd_indexAddr rfl rfl rfl (indexAddr_sl (z := 1) ha Tryz.underlying22 (by kernel_rfl) ⟨by omega, by omega⟩)) ?_; refine pk rfl (rd_load rfl rfl (l2 (row_move (hl.since 0 rfl) hrow) htk)) ?_; iterate 2 refine pm rfl ?_
     refine pr rfl (rd_indexAddr rfl rfl rfl (indexAddr_slice (z := 1) Tryz.underlying39 (by kernel_rfl) ⟨by omega, by omega⟩)) ?_; refine pk rfl (rd_load rfl rfl (l1 (hl.get 2 rfl) (hat k))) ?_; refine pr rfl (rd_bin rfl rfl rfl (i6 (by omega))) ?_; refine pr rfl (rd_indexAddr rfl rfl rfl (indexAddr_sl (z := 10) ha2 Tryz.underlying27 (by kernel_rfl) ⟨by omega, by omega⟩)) ?_; refine pr rfl (rd_fieldAddr rfl rfl (fa Tryz.underlying54 az54 rfl)) ?_; refine pk rfl (rd_load rfl rfl (lR (z := 2) (l := y.at_.cells) (row_move (hl.since 0 rfl) hrow2) (tk_part (j := 0) (l2 := y.at_.cells) htk2 rfl))) ?_
     iterate 2 refine pm rfl ?_
     refine pr rfl (rd_indexAddr rfl rfl rfl (indexAddr_slice (z := 2) Tryz.underlying116 (by kernel_rfl) ⟨by omega, by omega⟩)) ?_; refine pk rfl (rd_load rfl rfl (lN (z := 2) (hl.get 9 rfl) (flat_take (f := Ti.cells) (fun _ => rfl) ht))) ?_
     refine rp_callL hl rfl rfl rfl rfl rfl rfl rfl (spec90 y.at_ t) ?_; rintro v S1 hk1 rfl hl; refine ⟨stays_all (by kernel_rfl), ?_⟩
     refine pr rfl (rd_bin rfl rfl rfl rfl) ?_; refine pm rfl ?_; refine rp_end rfl ?_
     exact ⟨rfl, bl (by unfold advB atT; rw [h60, hy]; rfl), sB, hl⟩
    ·
     iterate 18 refine pz rfl ?_
     refine pm rfl ?_; refine rp_end rfl ?_
     exact ⟨rfl, bl (by unfold advB; rw [h60]; rfl), sB, hl⟩
   intro S1 hl
   refine xp_cond rfl rfl (fun h79 => ?_) (fun h79 => ?_)
   ·
    have hk1 := advB_lt h79
    refine xp_skip rfl ?_; refine xp_block rfl ?_; refine xg (by kernel_rfl) ?_; iterate 2 refine rm rfl ?_
    refine rr rfl (rd_indexAddr rfl rfl rfl (indexAddr_slice (z := 1) Tryz.underlying39 (by kernel_rfl) ⟨by omega, by omega⟩)) ?_; refine rr rfl (rd_load rfl rfl (l1 (hl.get 2 rfl) (hat k))) ?_; refine rr rfl (rd_bin rfl rfl rfl (i6 (by omega))) ?_; refine rr rfl (rd_indexAddr rfl rfl rfl (indexAddr_slice (z := 1) Tryz.underlying39 (by kernel_rfl) ⟨by omega, by omega⟩)) ?_; refine re_storeR hl 2 rfl rfl rfl rfl rfl rfl rfl (by kernel_rfl) (set_at (k2 := k + 1) hPt) ?_; intro S1 hl; refine re_end rfl ?_
    exact ⟨x.length - (k + 1), by omega, k + 1, by omega, rfl, by rw [← advE_go h79]; exact hadv, ⟨rfl, rfl, rfl, rfl, rfl, rfl, rfl, rfl, rfl, rfl, trivial⟩, hl⟩
   ·
    have hke : k = advE x t k0 := by rw [← hadv, advE_stop h79]
    refine xp_exit rfl ?_; refine xs (by kernel_rfl) ?_; iterate 2 refine rm rfl ?_
    refine rr rfl (rd_indexAddr rfl rfl rfl (indexAddr_slice (z := 1) Tryz.underlying39 (by kernel_rfl) ⟨by omega, by omega⟩)) ?_; refine rr rfl (rd_load rfl rfl (l1 (hl.get 2 rfl) (hat k))) ?_; refine rm rfl ?_; refine re_end rfl ?_
    refine xp_seq rfl (xe_cut (fun Le S' => SubE [(10, .int .i64 (hrE x t k)), (9, .int .i64 (j : Int)), (46, .int .i64 (j : Int)), (45, .int .i64 V.length), (8, ptrTo B8 0), (7, .int .i64 (subE u t).2), (5, .int .i64 (n : Int)), (4, .slice (some ⟨B17, 0, none⟩) V.length V.length), (3, .slice (some ⟨ba, 0, none⟩) (moE V).length (moE V).length), (0, .func (.yield z.lb) #[] #[]), (1, ptrTo z.bp 0)] Le ∧ HoldG Sb [Sb] S' ((B8, Blk.cells [.int .i64 t.n, .int .i64 t.d, .int .i64 (subE u t).1.n, .int .i64 (subE u t).1.d, ev] 110 false true []) :: (B6, Blk.cells (subE u t).1.cells 50 false true []) :: (B17, Blk.cells (((upd V t A).take j ++ k :: A.drop (j + 1)).map iz) 3 true true []) :: (z.l ov ++ ([(ba, Blk.cells ((moE V).map Ti.cells).flatten 50 true true kin)] ++ (fe ++ (fo ++ rest))))) []) ?_ ?_)
    ·
     refine xs (by kernel_rfl) ?_; refine rr rfl (rd_load rfl rfl (l1 (v := .slice aV V.length cV) (hl.get 8 rfl) (congrArg some hcp))) ?_; refine rm rfl ?_; refine rr rfl (rd_indexAddr rfl rfl rfl (indexAddr_sl (z := 1) ha Tryz.underlying22 (by kernel_rfl) ⟨by omega, by omega⟩)) ?_; refine rr rfl (rd_load rfl rfl (l2 (row_move (hl.since 0 rfl) hrow) htk)) ?_
     refine re_callL hl rfl rfl rfl rfl rfl rfl rfl (spec91 aw cw x (hl.keep.3 hF) (hvx.move (hl.since 0 rfl))) ?_; rintro v S1 hk1 rfl hl
     iterate 3 refine rm rfl ?_
     refine re_allocL hl rfl rfl rfl rfl rfl (z := [.int .i64 0, .int .i64 0]) (by kernel_rfl) ?_; intro B11 S11 hl; refine re_storeL hl 0 rfl rfl rfl rfl rfl rfl rfl (by kernel_rfl) rfl ?_; intro S1 hl; refine rm rfl ?_; refine re_end rfl ?_; refine xp_seq rfl ?_; refine xp_draw (idx := [0, 1, 2, 3, 4, 5, 6]) rfl (by kernel_rfl) (by kernel_rfl) ?_; refine pk rfl (rd_load rfl rfl (lN (z := 2) (hl.get 0 rfl) rfl)) ?_; iterate 2 refine pm rfl ?_
     refine pr rfl (rd_indexAddr rfl rfl rfl (indexAddr_slice (z := 2) Tryz.underlying116 (by kernel_rfl) ⟨by omega, by omega⟩)) ?_; refine pk rfl (rd_load rfl rfl (lN (z := 2) (hl.get 10 rfl) (flat_take (f := Ti.cells) (fun _ => rfl) ht))) ?_
     refine rp_callL hl rfl rfl rfl rfl rfl rfl rfl (spec90 (endE x).1 t) ?_; rintro v S1 hk1 rfl hl; refine ⟨stays_all (by kernel_rfl), ?_⟩
     refine pr rfl (rd_bin rfl rfl rfl rfl) ?_; refine rp_end rfl ?_; refine xp_cond rfl rfl (fun h104 => ?_) (fun h104 => ?_)
     ·
      refine xg (by kernel_rfl) ?_; refine rm rfl ?_; refine re_end rfl ?_
      exact ⟨rfl, ⟨congrArg some (congrArg (Value.int .i64) (hr_1 h104)), rfl, rfl, rfl, rfl, rfl, rfl, rfl, rfl, rfl, rfl, trivial⟩, hl.tail⟩
     ·
      refine xp_skip rfl ?_
      exact ⟨rfl, ⟨congrArg some (congrArg (Value.int .i64) (hr_2 h104)), rfl, rfl, rfl, rfl, rfl, rfl, rfl, rfl, rfl, rfl, trivial⟩, hl.tail⟩
    clear hl; rintro Le4 S1 ⟨hsub4, hl⟩; refine xe_sub hsub4 ?_
    refine xg (by kernel_rfl) ?_; refine rr rfl (rd_fieldAddr rfl rfl (fa Tryz.underlying110 az110 rfl)) ?_; refine rr rfl (rd_load rfl rfl (l1 (hl.get 0 rfl) rfl)) ?_; refine rm rfl ?_; refine re_buildSliceR hl rfl rfl rfl rfl rfl Tryz.underlying39 rfl (c := [.int .i64 (hrE x t k)]) (by kernel_rfl) ?_; intro B108 S1 hr108 hl
    have hl : HoldG Sb [Sb] _ (([(B8, Blk.cells [.int .i64 t.n, .int .i64 t.d, .int .i64 (subE u t).1.n, .int .i64 (subE u t).1.d, ev] 110 false true []), (B6, Blk.cells (subE u t).1.cells 50 false true []), (B17, Blk.cells (((upd V t A).take j ++ k :: A.drop (j + 1)).map iz) 3 true true [])] ++ (z.l ov ++ [(ba, Blk.cells ((moE V).map Ti.cells).flatten 50 true true kin)])) ++ (fe ++ (fo ++ rest))) [] := hl
    have hl := hl.perm (List.perm_append_comm_assoc _ fe (fo ++ rest))
    refine re_appendB hl hge rfl rfl rfl rfl rfl rfl rfl Tryz.underlying39 Tryz.underlying39 rfl rfl (by decide) (by kernel_rfl) (src_row (new := [.int .i64 (hrE x t k)]) hr108 rfl) rfl rfl (by kernel_rfl) (by show E.length + 1 ≤ maxNeed; unfold maxNeed; omega) ?_; intro ev2 fe2 S1 hge2 hl
    have hl := hl.perm (List.perm_append_comm_assoc fe2 _ (fo ++ rest))
    obtain ⟨ea, rfl⟩ := GB.is hge2
    have hl : HoldG Sb [Sb] _ ((B8, Blk.cells [.int .i64 t.n, .int .i64 t.d, .int .i64 (subE u t).1.n, .int .i64 (subE u t).1.d, ev] 110 false true []) :: (B6, Blk.cells (subE u t).1.cells 50 false true []) :: (B17, Blk.cells (((upd V t A).take j ++ k :: A.drop (j + 1)).map iz) 3 true true []) :: (z.l ov ++ ([(ba, Blk.cells ((moE V).map Ti.cells).flatten 50 true true kin)] ++ (fe2 ++ (fo ++ rest))))) [] := hl
    refine rr rfl (rd_fieldAddr rfl rfl (fa Tryz.underlying110 az110 rfl)) ?_; refine re_storeL hl 0 rfl rfl rfl rfl rfl rfl rfl (by kernel_rfl) rfl ?_; intro S1 hl; refine re_end rfl ?_; refine xg (by kernel_rfl) ?_; refine rr rfl (rd_bin rfl rfl rfl (i6 (by omega))) ?_; refine rm rfl ?_; refine re_end rfl ?_
    refine ⟨V.length - (j + 1), by omega, j + 1, E ++ [hrE x t k], .slice ea (E.length + 1) (E.length + 1), fe2, by omega, rfl, by rw [take_nth' hEj, ← hEe, ← hke], by rw [List.length_append, hEl]; rfl, by rw [List.map_append, List.length_append]; exact hge2, ⟨rfl, rfl, rfl, rfl, rfl, rfl, rfl, rfl, rfl, trivial⟩, ?_⟩
    rw [take_nth' hUj, ← hke, List.append_assoc]
    exact hl
  ·
   refine xp_exit rfl ?_; refine xs (by kernel_rfl) ?_; refine rm rfl ?_; refine rr rfl (rd_load rfl rfl (lN (z := 5) (hl.get 0 rfl) rfl)) ?_; refine rm rfl ?_
   have hjV : j = V.length := by have := of_decide_eq_false h47; omega
   have hUl0 := (upd_ok (t := t) hAl hA).1
   obtain ⟨ea, rfl⟩ := GB.is hge
   have hEV : E = evs V t A := by rw [hEe, List.take_of_length_le (by unfold evs; rw [List.length_zipWith]; omega)]
   rw [List.take_of_length_le (by omega), List.drop_eq_nil_of_le (by omega), List.append_nil] at hl
   have hl : HoldG Sb [Sb] _ ([(B8, Blk.cells [.int .i64 t.n, .int .i64 t.d, .int .i64 (subE u t).1.n, .int .i64 (subE u t).1.d, (.slice ea E.length E.length)] 110 false true []), (B6, Blk.cells (subE u t).1.cells 50 false true []), (B17, Blk.cells (((upd V t A)).map iz) 3 true true [])] ++ (z.l ov ++ ([(ba, Blk.cells ((moE V).map Ti.cells).flatten 50 true true kin)] ++ (fe ++ (fo ++ rest))))) [] := hl
   have hl := hl.perm (perm5 _ _ _ _ _ _)
   cases he : ((subE u t).2 != 0) with
   | true =>
    rw [slG_1 he] at hs2
    refine re_callT rfl rfl rfl rfl rfl rfl rfl (ct_mono (round_err z hz (x := ⟨t, (subE u t).1, E⟩) he hl) ?_); rintro r S2 ⟨rfl, hl⟩
    refine rr rfl (rd_un rfl rfl rfl) ?_; refine re_end rfl ?_; refine xp_cond rfl rfl (fun h116 => ?_) (fun h116 => ?_)
    ·refine xp_ret rfl ?_
     refine blk_ret (thn_ret (round_ret (blk_ret (done_ret rfl ⟨rfl, .inr ⟨by rw [hs2]; simpa using he, ov, fo ++ ([(B8, Blk.cells [.int .i64 t.n, .int .i64 t.d, .int .i64 (subE u t).1.n, .int .i64 (subE u t).1.d, (.slice ea E.length E.length)] 110 false true []), (B6, Blk.cells (subE u t).1.cells 50 false true []), (B17, Blk.cells (((upd V t A)).map iz) 3 true true [])] ++ ([(ba, Blk.cells ((moE V).map Ti.cells).flatten 50 true true kin)] ++ (fe ++ rest))), by rw [hs2]; exact hl.perm (perm7 _ _ _)⟩⟩))))
    ·exact absurd h116 (by decide)
   | false =>
    have he0 : (subE u t).2 = 0 := by simpa using he
    rw [slG_2 he] at hs1 hs2
    rw [← hEV] at hs1
    refine re_callT rfl rfl rfl rfl rfl rfl rfl (ct_mono (round_ok0 z hz (x := ⟨t, (subE u t).1, E⟩) he0 (by omega) hg hl) ?_); rintro r S2 ⟨rfl, ov2, fo2, hg2, hl⟩
    refine rr rfl (rd_un rfl rfl rfl) ?_; refine re_end rfl ?_; refine xp_cond rfl rfl (fun h116 => ?_) (fun h116 => ?_)
    ·exact absurd h116 (by decide)
    refine xp_skip rfl ?_; refine xg (by kernel_rfl) ?_; refine rm rfl ?_; refine rr rfl (rd_bin rfl rfl rfl (i6 (by omega))) ?_; refine rm rfl ?_; refine re_end rfl ?_
    obtain ⟨hUl, hUo⟩ := upd_ok (t := t) hAl hA
    refine ⟨(moE V).length - (n + 1), by omega, n + 1, upd V t A, D ++ [((⟨t, (subE u t).1, E⟩ : Sl), Value.slice ea E.length E.length)], ov2, fo2, fe ++ ([(B8, Blk.cells [.int .i64 t.n, .int .i64 t.d, .int .i64 (subE u t).1.n, .int .i64 (subE u t).1.d, (.slice ea E.length E.length)] 110 false true []), (B6, Blk.cells (subE u t).1.cells 50 false true [])] ++ rest), by omega, rfl, hUl, hUo, by rw [List.length_append, hDn]; rfl, ?_, ?_, ?_, hg2, ⟨rfl, rfl, rfl, rfl, rfl, trivial⟩, hl.perm (perm6 [(B8, Blk.cells [.int .i64 t.n, .int .i64 t.d, .int .i64 (subE u t).1.n, .int .i64 (subE u t).1.d, (.slice ea E.length E.length)] 110 false true []), (B6, Blk.cells (subE u t).1.cells 50 false true [])] [(B17, Blk.cells (((upd V t A)).map iz) 3 true true [])] (z.l ov2) [(ba, Blk.cells ((moE V).map Ti.cells).flatten 50 true true kin)] fe fo2 rest)⟩
    ·rw [drop_nth' hu, List.map_append, List.append_assoc]; exact hs1
    ·rw [drop_nth' hu]; exact hs2
    ·intro w hw
     rcases List.mem_append.1 hw with hw | hw
     ·exact (hE w hw).mono fun p hp => by simp [hp]
     ·rw [List.mem_singleton.1 hw]
      exact ⟨fe, hge, fun p hp => by simp [hp]⟩
 ·
  refine xp_exit rfl ?_
  exact ⟨[], rfl, rfl, sl_done (C := [(B17, Blk.cells ((A).map iz) 3 true true [])]) (by have := of_decide_eq_false h22; omega) hs1 hs2 hE hg hl⟩
end Go.Proofs.YtgiibikieblicaaGreatDoor
namespace Go.Proofs.YtgiibikieblicaaGreatDoor
open Go.Cm Go
set_option maxRecDepth 100000
variable {S : St}
def slsE (V : List (List Ev)) : List Sl × Int := bif (acE V).1 != 0 then ([], (acE V).1) else bif (slE V).2 != 0 then ([], (slE V).2) else ((slE V).1, 0)
theorem sls_1 {V : List (List Ev)} (h : ((acE V).1 != 0) = true) : slsE V = ([], (acE V).1) := by unfold slsE; rw [h]; rfl
theorem sls_2 {V : List (List Ev)} (h : ((acE V).1 != 0) = false) (h2 : (slE V).2 ≠ 0) : slsE V = ([], (slE V).2) := by
 unfold slsE
 rw [h, show ((slE V).2 != 0) = true by simpa using h2]
 rfl
theorem sls_3 {V : List (List Ev)} (h : ((acE V).1 != 0) = false) (h2 : (slE V).2 = 0) : slsE V = ((slE V).1, 0) := by
 unfold slsE
 rw [h, h2]
 rfl
theorem acG_ok : ∀ (V : List (List Ev)) (i : Nat), (acG V i).1 = 0 → ∀ x, x ∈ V → x.length ≤ 2000
 | [], _, _, x, hx => (List.not_mem_nil hx).elim
 | v :: r, i, h, x, hx => by
  cases hb : ((evE v).1 != 0) with
  | true =>
   rw [acG_1 hb] at h
   have h' : (evE v).1 = 0 := h
   rw [h'] at hb; cases hb
  | false =>
   rw [acG_2 hb] at h
   rcases List.mem_cons.1 hx with rfl | hx
   ·exact ev_len hb
   ·exact acG_ok r (i + 1) h x hx
theorem ac_ok {V : List (List Ev)} (h : ((acE V).1 != 0) = false) : V.length ≤ 8 ∧ ∀ x, x ∈ V → x.length ≤ 2000 := by
 cases h1 : decide ((V.length : Int) > 8) with
 | true => rw [ac_1 h1] at h; cases h
 | false =>
  rw [ac_2 h1] at h
  exact ⟨by have := of_decide_eq_false h1; omega, acG_ok V 0 (by simpa using h)⟩
abbrev Ints (S : St) (v : Value) (l : List Int) : Prop := LsOf 3 1 (fun i => [Value.int .i64 i]) S v l
def Sls (S : St) (v : Value) (C : List Sl) : Prop := ∃ D : List (Sl × Value), LsOf 110 5 slC S v D ∧ D.map (·.1) = C ∧ ∀ x, x ∈ D → Ints S x.2 x.1.ev
theorem Sls.move {S S' : St} (h : RK S S') {v : Value} {C : List Sl} (hs : Sls S v C) : Sls S' v C := by
 obtain ⟨D, h1, h2, h3⟩ := hs
 exact ⟨D, h1.move h, h2, fun x hx => (h3 x hx).move h⟩
theorem Sls.nil {S : St} : Sls S (.slice none 0 0) [] := ⟨[], LsOf.nil, rfl, fun x hx => (List.not_mem_nil hx).elim⟩
theorem flat_one : ∀ l : List Int, (l.map fun i => [Value.int .i64 i]).flatten = l.map (Value.int .i64)
 | [] => rfl
 | x :: l => by rw [List.map_cons, List.flatten_cons, flat_one l]; rfl
theorem GB.ls {α : Type} {f : α → List Value} {e : TypeId} {z : Nat} {C : List α} {v : Value} {fr l : List (Nat × Blk)} {S0 S : St} {Ts : List St} (hz : ∀ x, (f x).length = z) (h : GB v e z ((C.map f).flatten) C.length fr) (hl : HoldG S0 Ts S l []) (hm : ∀ p, p ∈ fr → p ∈ l) : LsOf e z f S v C := by
 rcases h with ⟨rfl, _, h3, _⟩ | ⟨b, kin, rfl, _, rfl⟩
 ·have : C = [] := List.length_eq_zero_iff.1 h3
  subst this
  exact LsOf.nil
 ·obtain ⟨h1, _, h2⟩ := hl.at_ b _ (hm _ (List.mem_cons_self ..))
  exact LsOf.row hz ⟨h2, _, _, h1⟩ rfl
theorem sls_of {S0 S : St} {Ts : List St} {l fo : List (Nat × Blk)} {D : List (Sl × Value)} {v : Value} (hg : GB v 110 5 (cD D) D.length fo) (hl : HoldG S0 Ts S l []) (hf : ∀ p, p ∈ fo → p ∈ l) (hE : ∀ x, x ∈ D → EvIn x l) : Sls S v (D.map (·.1)) :=
 ⟨D, GB.ls (fun _ => rfl) hg hl hf, rfl, fun x hx => by
  obtain ⟨fr, h1, h2⟩ := hE x hx
  refine GB.ls (f := fun i => [Value.int .i64 i]) (fun _ => rfl) ?_ hl h2
  rw [flat_one]
  exact h1⟩
theorem tm_one {S : St} {d : Nat} (h : S.get d = some (.defs false)) : takeMarks [markOf d] S = some (S.set d (.defs true)) := by
 unfold markOf takeMarks
 rw [h]
 rfl
noncomputable def cd60 : Code := Tryz.f60.body.getD .skip
theorem spec60 (a : Option Addr) (n cap : Nat) : CC Tryz.prog KK 60 [.slice a n cap] S (fun v S' => Keep S S' ∧ ∃ bp, v = .func (.func 87) #[] #[ptrTo bp 0] ∧ HoldG S [S] S' [(bp, .cells [.slice a n cap] 22 false true [])] []) := by
 refine cc_enter (c := cd60) (n := 4) Tryz.func60 rfl rfl rfl (by kernel_rfl) rfl rfl ?_
 have hl := Hold.start S
 refine zg ?_; refine re_boxL hl rfl rfl rfl rfl rfl rfl ?_; intro B1 S1 hl; refine zg ?_; refine rr rfl (rd_func rfl rfl rfl) ?_; refine zg ?_
 refine y1 rfl ⟨hl.keep, ⟨B1, rfl, hl⟩⟩
theorem spec39 (a : Option Addr) (cap : Nat) (V : List (List Ev)) (hF : Fresh S) (hv : Vs S (.slice a V.length cap) V) : CC Tryz.prog KK 39 [.slice a V.length cap] S (fun v S' => Keep S S' ∧ ∃ w, v = tupV [w, .int .i64 (slsE V).2] ∧ Sls S' w (slsE V).1) := by
 refine cc_enterM (c := cSl) (n := 29) Tryz.func39 rfl rfl rfl (by kernel_rfl) rfl rfl ?_
 have hl := Hold.start S
 refine xdp_seq rfl (xd_of_xe ?_); refine zg ?_; refine re_allocL hl rfl rfl rfl rfl rfl (z := [.slice none 0 0]) (by kernel_rfl) ?_; intro B2 S2 hl; refine re_allocL hl rfl rfl rfl rfl rfl (z := [.int .i64 0]) (by kernel_rfl) ?_; intro B3 S3 hl; refine zg ?_; refine xdp_seq rfl (xd_of_xe ?_); refine zg ?_
 refine zc hl rfl (spec59 a cap V (hl.keep.3 hF) (hv.move (hl.since 0 rfl))) ?_; rintro v S1 hk1 rfl hl
 refine zg ?_
 constructor <;> intro h15
 ·
  refine zg ?_; refine re_storeL hl 1 rfl rfl rfl rfl rfl rfl rfl (by kernel_rfl) rfl ?_; intro S1 hl; refine re_storeL hl 0 rfl rfl rfl rfl rfl rfl rfl (by kernel_rfl) rfl ?_; intro S1 hl; refine zg ?_
  exact ⟨_, _, rfl, ress_cell rfl (l1 (hl.get 1 rfl) rfl) (ress_cell rfl (l1 (hl.get 0 rfl) rfl) rfl), hl.keep, .slice none 0 0, by rw [sls_1 h15], by rw [sls_1 h15]; exact Sls.nil⟩
 refine zg ?_
 obtain ⟨hn, hV⟩ := ac_ok h15
 refine xdp_seq rfl (xd_of_xe ?_); refine zg ?_; refine re_allocL hl rfl rfl rfl rfl rfl (z := [.slice none 0 0]) (by kernel_rfl) ?_; intro B6 S6 hl; refine zg ?_; refine xdp_seq rfl ?_; refine xdp_seq rfl (xd_of_xe ?_); refine zg ?_
 have hl0 := hl
 refine zc hl rfl (spec60 a V.length cap) ?_; rintro v S7 hk7 ⟨bp, rfl, hb⟩ hl
 have hl := HoldG.join hl0 hb
 refine zg ?_; refine xdp_block rfl (xd_range rfl rfl rfl (by kernel_rfl) ?_)
 intro t ht
 have hl := (hl.new (.defs false)).new (.loop .ready none 29 t (rgP rf) (rgA rf) (rgB rf) S7.size)
 let z : Fr := ⟨S7.size + 1, S7.size, bp, B2, B3, B6, t, .slice a V.length cap⟩
 have hl : HoldG S [S] _ (z.l (.slice none 0 0)) [] := hl.perm (List.Perm.append_right [_] (List.perm_append_comm (l₁ := [_, _]) (l₂ := [_, _, _])))
 refine ct_mono (ct_func (ce_of_cc (spec87 z (ht.sub (L' := [(6, ptrTo B6 0), (3, ptrTo B3 0), (2, ptrTo B2 0)]) ⟨rfl, rfl, rfl, trivial⟩) a cap V rfl hF hn hV hv hl))) ?_
 rintro r S8 ⟨v, rfl, rfl, hq⟩
 rcases hq with ⟨h0, D, ov, fo, rest, hD, hE, hg, hl⟩ | ⟨hne, ov, rest, hl⟩
 ·
  obtain ⟨oa, rfl⟩ := GB.is hg
  refine ⟨_, _, _, _, _, _, _, _, hl.get 3 rfl, rfl, ?_⟩
  have hl := hl.put (k := 3) rfl rfl (.loop .exhausted none 29 t (rgP rf) (rgA rf) (rgB rf) S7.size)
  refine xdp_seq rfl (xd_of_xe ?_); refine zg ?_; refine re_storeL hl 2 rfl rfl rfl rfl rfl rfl rfl (by kernel_rfl) rfl ?_; intro S1 hl; refine re_storeL hl 1 rfl rfl rfl rfl rfl rfl rfl (by kernel_rfl) rfl ?_; intro S1 hl; refine zg ?_; refine xd_of_xe (xp_ret rfl ?_)
  have hd := hl.get 4 rfl
  have hl := hl.put (k := 4) rfl rfl (.defs true)
  refine ⟨_, _, tm_one hd, ress_cell rfl (l1 (hl.get 2 rfl) rfl) (ress_cell rfl (l1 (hl.get 1 rfl) rfl) rfl), hl.keep, .slice oa D.length D.length, by rw [sls_3 h15 h0], ?_⟩
  rw [sls_3 h15 h0, ← hD]
  have hl : HoldG S [S] _ ([(B6, _), (B3, _), (B2, _), (S7.size + 1, _), (S7.size, _), (bp, _)] ++ (fo ++ rest)) [] := hl
  exact sls_of hg hl (fun p hp => List.mem_append.2 (.inr (List.mem_append.2 (.inl hp)))) (fun x hx => (hE x hx).mono fun p hp => List.mem_append.2 (.inr (List.mem_append.2 (.inr hp))))
 ·
  refine ⟨_, _, _, _, _, _, _, _, hl.get 3 rfl, rfl, ?_⟩
  have hl := hl.put (k := 3) rfl rfl (.loop .exhausted (some .ret) 29 t (rgP rf) (rgA rf) (rgB rf) S7.size)
  have hd := hl.get 4 rfl
  have hl := hl.put (k := 4) rfl rfl (.defs true)
  exact ⟨_, _, tm_one hd, ress_cell rfl (l1 (hl.get 2 rfl) rfl) (ress_cell rfl (l1 (hl.get 1 rfl) rfl) rfl), hl.keep, .slice none 0 0, by rw [sls_2 h15 hne], by rw [sls_2 h15 hne]; exact Sls.nil⟩
end Go.Proofs.YtgiibikieblicaaGreatDoor
namespace Go.Proofs.YtgiibikieblicaaGreatDoor
open Go.Cm Go
set_option maxRecDepth 100000
variable {S : St}
theorem Sls.is {S : St} {v : Value} {C : List Sl} (h : Sls S v C) : ∃ a cap, v = .slice a C.length cap := by
 obtain ⟨D, h1, h2, _⟩ := h
 obtain ⟨a, cap, e⟩ := LsOf.is h1
 exact ⟨a, cap, by rw [e, ← h2, List.length_map]⟩
theorem Sls.elem {S : St} {a : Option Addr} {n cap : Nat} {C : List Sl} (h : Sls S (.slice a n cap) C) {k : Nat} {s : Sl} (hk : nth C k = some s) :
  ∃ b o cs aw cw, a = some ⟨b, o, none⟩ ∧ n = C.length ∧ RowAt S b 110 cs ∧ takeN 5 (dropN (o + k * 5) cs) = some [.int .i64 s.at_.n, .int .i64 s.at_.d, .int .i64 s.dur.n, .int .i64 s.dur.d, .slice aw s.ev.length cw] ∧ Ints S (.slice aw s.ev.length cw) s.ev := by
 obtain ⟨D, h1, rfl, h3⟩ := h
 obtain ⟨x, hx, rfl⟩ := nth_unmap2 hk
 obtain ⟨b, o, cs, e1, e2, e3, e4⟩ := LsOf.elem h1 hx
 have hi := h3 x (nth_mem hx)
 obtain ⟨aw, cw, e⟩ := LsOf.is hi
 rw [e] at hi
 refine ⟨b, o, cs, aw, cw, e1, by rw [List.length_map]; exact e2, e3, ?_, hi⟩
 rw [e4]
 unfold slC
 rw [e]
def WF (V : List (List Ev)) (L : List Sl) : Prop := ∀ n s, nth L n = some s → s.ev.length = V.length ∧ ∀ v i x, nth s.ev v = some i → nth V v = some x → i < (x.length : Int)
def e0 : Ev := ⟨t0, t0, p0, false, 0, 0⟩
def evI (L : List Sl) (n v : Nat) : Int := ((nth L n).bind fun s => nth s.ev v).getD (-1)
def evAt (V : List (List Ev)) (v : Nat) (i : Int) : Ev := ((nth V v).bind fun x => nth x i.toNat).getD e0
def snB (V : List (List Ev)) (L : List Sl) (v n : Nat) : Bool := decide (evI L n v < 0) || (evAt V v (evI L n v)).rest
def snE (V : List (List Ev)) (L : List Sl) (v n : Nat) : Ev × Bool := bif snB V L v n then (e0, false) else (evAt V v (evI L n v), true)
theorem sn_1 {V : List (List Ev)} {L : List Sl} {v n : Nat} (h : snB V L v n = true) : snE V L v n = (e0, false) := by unfold snE; rw [h]; rfl
theorem sn_2 {V : List (List Ev)} {L : List Sl} {v n : Nat} (h : snB V L v n = false) : snE V L v n = (evAt V v (evI L n v), true) := by unfold snE; rw [h]; rfl
theorem evI_at {L : List Sl} {n v : Nat} {s : Sl} {i : Int} (hs : nth L n = some s) (hi : nth s.ev v = some i) : evI L n v = i := by unfold evI; rw [hs]; show (nth s.ev v).getD (-1) = _; rw [hi]; rfl
theorem evAt_at {V : List (List Ev)} {v : Nat} {x : List Ev} {i : Int} {y : Ev} (hx : nth V v = some x) (hy : nth x i.toNat = some y) : evAt V v i = y := by unfold evAt; rw [hx]; show (nth x i.toNat).getD e0 = _; rw [hy]; rfl
structure SetAt (S : St) (aV aS : Option Addr) (cV cS : Nat) (V : List (List Ev)) (L : List Sl) : Prop where
 vs : Vs S (.slice aV V.length cV) V
 sl : Sls S (.slice aS L.length cS) L
 wf : WF V L
 hn : V.length ≤ 8
 hV : ∀ x, x ∈ V → x.length ≤ 2000
 hL : L.length ≤ 20000
theorem SetAt.move {S S' : St} {aV aS : Option Addr} {cV cS : Nat} {V : List (List Ev)} {L : List Sl} (h : SetAt S aV aS cV cS V L) (hk : RK S S') : SetAt S' aV aS cV cS V L := ⟨h.vs.move hk, h.sl.move hk, h.wf, h.hn, h.hV, h.hL⟩
def mvN (p q : Ev) : Int := (numE q.p).1 - (numE p.p).1
noncomputable def cd31 : Code := Tryz.f31.body.getD .skip
theorem spec31 (a : Option Addr) (cap : Nat) (V : List (List Ev)) (hF : Fresh S) (hv : Vs S (.slice a V.length cap) V) : CC Tryz.prog KK 31 [.slice a V.length cap] S (fun v S' => Keep S S' ∧ ∃ w, v = tupV [aggL [.slice a V.length cap, w], .int .i64 (slsE V).2] ∧ Sls S' w (slsE V).1) := by
 refine cc_enter (c := cd31) (n := 15) Tryz.func31 rfl rfl rfl (by kernel_rfl) rfl rfl ?_
 have hl := Hold.start S
 refine zg ?_; refine re_allocL hl rfl rfl rfl rfl rfl (z := [.slice none 0 0, .slice none 0 0]) (by kernel_rfl) ?_; intro B2 S2 hl; refine zg ?_
 refine zc hl rfl (spec39 a cap V (hl.keep.3 hF) (hv.move (hl.since 0 rfl))) ?_; rintro v S1 hk1 ⟨w, rfl, hs⟩ hl; have hl := hl.mark; obtain ⟨aS, cS, rfl⟩ := Sls.is hs
 refine zg ?_; refine rr rfl (rd_build rfl rfl (v := aggL [.slice a V.length cap, .slice aS (slsE V).1.length cS]) (by rfl)) ?_; refine zg ?_; refine re_storeL hl 0 rfl rfl rfl rfl rfl rfl rfl (by kernel_rfl) rfl ?_; intro S1 hl; refine zg ?_
 refine done_ret (ress_cell rfl (lN (z := 2) (hl.get 0 rfl) rfl) (ress_tmp rfl rfl)) ⟨hl.keep, ⟨_, rfl, Sls.move (hl.since 0 rfl) hs⟩⟩
noncomputable def cd61 : Code := Tryz.f61.body.getD .skip
theorem spec61 (aV aS : Option Addr) (cV cS : Nat) (V : List (List Ev)) (L : List Sl) (vv n : Nat) (hs : SetAt S aV aS cV cS V L) (hvv : vv < V.length) (hnn : n < L.length) : CC Tryz.prog KK 61 [aggL [.slice aV V.length cV, .slice aS L.length cS], .int .i64 (vv : Int), .int .i64 (n : Int)] S (fun v S' => Keep S S' ∧ v = tupV [(snE V L vv n).1.v, .bool (snE V L vv n).2]) := by
 refine cc_enter (c := cd61) (n := 40) Tryz.func61 rfl rfl rfl (by kernel_rfl) rfl rfl ?_
 have hl := Hold.start S
 obtain ⟨s, hsn⟩ := nth_some hnn
 obtain ⟨x, hx⟩ := nth_some hvv
 obtain ⟨b1, o1, cs1, aw, cw, ha, _, hrow, htk, hiv⟩ := hs.sl.elem hsn
 obtain ⟨hwl, hwi⟩ := hs.wf n s hsn
 obtain ⟨i, hi⟩ := nth_some (l := s.ev) (i := vv) (by omega)
 obtain ⟨b2, o2, cs2, ha2, _, hrow2, htk2⟩ := hiv.elem hi
 obtain ⟨b3, o3, cs3, ax, cx, ha3, _, hrow3, htk3, hvx⟩ := hs.vs.elem hx
 have hix := hwi vv i x hi hx
 have hei := evI_at hsn hi
 refine zg ?_; refine re_boxL hl rfl rfl rfl rfl rfl rfl ?_; intro B3 S3 hl; refine re_allocL hl rfl rfl rfl rfl rfl (z := [.int .i64 0, .int .i64 0, .int .i64 0, .int .i64 0, .int .i64 0, .int .i64 0, .int .i64 0, .bool false, .int .i64 0, .int .i64 0]) (by kernel_rfl) ?_; intro B6 S6 hl; refine zA ?_; refine zS ?_; refine xp_seq rfl ?_; refine xp_seq rfl (xe_toE hl 30 (.bool (snB V L vv n)) ?_ rfl ?_)
 ·
  refine zg ?_; refine re_bool (d := 20) rfl (fun h20 => ?_) (fun h20 => ?_)
  ·
   refine zg ?_
   exact ⟨rfl, bl (by unfold snB; rw [hei, h20]; rfl), sB, hl⟩
  ·
   have h0 : 0 ≤ i := by have := of_decide_eq_false h20; omega
   obtain ⟨y, hy⟩ := nth_some (l := x) (i := i.toNat) (by omega)
   obtain ⟨b4, o4, cs4, ha4, _, hrow4, htk4⟩ := hvx.elem hy
   have hey := evAt_at hx hy
   refine zg ?_
   exact ⟨rfl, bl (by unfold snB; rw [hei, h20, hey]; rfl), sB, hl⟩
 intro S1 hl
 refine zg ?_
 constructor <;> intro h30
 ·
  refine zg ?_; refine rr rfl (rd_build rfl rfl (v := aggL [.int .i64 0, .int .i64 0, .int .i64 0, .int .i64 0, .int .i64 0, .int .i64 0, .int .i64 0, .bool false, .int .i64 0, .int .i64 0]) (by rfl)) ?_; refine re_storeL hl 0 rfl rfl rfl rfl rfl rfl rfl (by kernel_rfl) rfl ?_; intro S1 hl; refine zg ?_
  refine thn_ret (done_ret (ress_cell rfl (lN (z := 10) (hl.get 0 rfl) rfl) (ress_tmp rfl rfl)) ⟨hl.keep, by rw [sn_1 h30] <;> rfl⟩)
 ·
  have h0 : 0 ≤ i := by
   cases hd : decide (i < 0) with
   | true => unfold snB at h30; rw [hei, hd] at h30; cases h30
   | false => have := of_decide_eq_false hd; omega
  obtain ⟨y, hy⟩ := nth_some (l := x) (i := i.toNat) (by omega)
  obtain ⟨b4, o4, cs4, ha4, _, hrow4, htk4⟩ := hvx.elem hy
  have hey := evAt_at hx hy
  refine zg ?_; refine re_storeL hl 0 rfl rfl rfl rfl rfl rfl rfl (by kernel_rfl) rfl ?_; intro S1 hl; refine zg ?_
  refine done_ret (ress_cell rfl (lN (z := 10) (hl.get 0 rfl) rfl) (ress_tmp rfl rfl)) ⟨hl.keep, by rw [sn_2 h30, hei, hey] <;> rfl⟩
noncomputable def cd42 : Code := Tryz.f42.body.getD .skip
theorem spec42 (x : Int) : CC Tryz.prog KK 42 [.int .i64 x] S (fun v S' => Keep S S' ∧ v = .int .i64 (sgn x)) := by
 refine cc_enter (c := cd42) (n := 9) Tryz.func42 rfl rfl rfl (by kernel_rfl) rfl rfl ?_
 have hl := Hold.start S
 refine zg ?_
 constructor <;> intro h3
 ·
  refine zg ?_
  refine blk_ret ((z1 rfl ⟨hl.keep, congrArg (Value.int .i64) (sgn_1 h3).symm⟩))
 ·
  refine zg ?_
  constructor <;> intro h6
  ·
   refine zg ?_
   refine blk_ret ((z1 rfl ⟨hl.keep, congrArg (Value.int .i64) (sgn_2 h3 h6).symm⟩))
  ·
   refine zg ?_
   refine y1 rfl ⟨hl.keep, congrArg (Value.int .i64) (sgn_3 h3 h6).symm⟩
end Go.Proofs.YtgiibikieblicaaGreatDoor

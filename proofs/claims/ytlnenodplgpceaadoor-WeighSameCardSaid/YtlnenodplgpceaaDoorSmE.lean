/-
  transform.change.all. transform.Move. tactuskit.Voice. dissonance.clash. dissonance.suspended. dissonance.treat. dissonance.all. dissonance.begin. dissonance.All.
-/
import Derived.Test.YtlnenodplgpceaaDoorSmD
namespace Go.Proofs.YtlnenodplgpceaaDoor
open Go.Cm Go
set_option maxRecDepth 100000
variable {S : St}
theorem WrE.is {Sb S' : St} {r : List (Nat × Blk)} {aw : Option Addr} {n : Nat} {q : List Ev × Int} {v : Value} (h : WrE Sb r aw n q v S') : ∃ w e, v = tupV [w, .int .i64 e] := by
 obtain ⟨tl, _, ⟨_, _, h, _⟩ | ⟨_, h⟩⟩ := h
 ·exact ⟨_, _, h⟩
 ·exact ⟨_, _, h⟩
theorem WrE.keep {Sb S' : St} {r : List (Nat × Blk)} {aw : Option Addr} {n : Nat} {q : List Ev × Int} {v : Value} (h : WrE Sb r aw n q v S') : Keep Sb S' := by
 obtain ⟨tl, h, _⟩ := h
 exact h.keep
def alN (n : Int) : Nat → List Ev → Nat → List Ev × Int
 | 0, D, _ => (D, 0)
 | k + 1, D, i => bif (chP (dI D i) n).2 != 0 then ([], (chP (dI D i) n).2) else alN n k (D.set i (chP (dI D i) n).1) (i + 1)
def allE (C : List Ev) (n : Int) : List Ev × Int := bif (alN n C.length C 0).2 != 0 then ([], (alN n C.length C 0).2) else chnE (alN n C.length C 0).1
theorem alN_err {n : Int} {k : Nat} {D : List Ev} {i : Nat} (h : ((chP (dI D i) n).2 != 0) = true) : alN n (k + 1) D i = ([], (chP (dI D i) n).2) := by rw [alN, h]; rfl
theorem alN_go {n : Int} {k : Nat} {D : List Ev} {i : Nat} (h : ((chP (dI D i) n).2 != 0) = false) : alN n (k + 1) D i = alN n k (D.set i (chP (dI D i) n).1) (i + 1) := by rw [alN, h]; rfl
theorem all_1 {C : List Ev} {n : Int} (h : ((alN n C.length C 0).2 != 0) = true) : allE C n = ([], (alN n C.length C 0).2) := by unfold allE; rw [h]; rfl
theorem all_2 {C : List Ev} {n : Int} {D : List Ev} (h : alN n C.length C 0 = (D, 0)) : allE C n = chnE D := by unfold allE; rw [h]; rfl
noncomputable def c21 : Code := Tryd.f21.body.getD .skip
theorem spec21 (n : Int) (bs bf : Nat) (a : Option Addr) (cap : Nat) (C : List Ev) (hF : Fresh S) (hn : C.length ≤ 3000) (hb : bs < S.size) (hg : S.get bs = some (.cells [.int .i64 n] 3 false true [])) (hb2 : bf < S.size) (hg2 : S.get bf = some (.cells [.func (.func 19) #[] #[ptrTo bs 0]] 59 false true [])) (hv : Evs S (.slice a C.length cap) C) : CC Tryd.prog KK 21 [.func (.func 30) #[] #[ptrTo bf 0], .slice a C.length cap] S (fun v S' => Keep S S' ∧ ∃ aw, WrE S [] aw C.length (allE C n) v S') := by
 refine cc_enter (c := c21) (n := 38) Tryd.func21 rfl rfl rfl (by kernel_rfl) rfl rfl ?_
 have hl := Hold.start S
 refine xs (by kernel_rfl) ?_; iterate 2 refine rm rfl ?_
 refine re_end rfl ?_; refine xs (by kernel_rfl) ?_; refine rm rfl ?_
 refine re_callL hl rfl rfl rfl rfl rfl rfl rfl (spec34 a cap C hn (hv.move (hl.since 0 rfl))) ?_; rintro v S1 hk1 ⟨aw, tl, rfl, hT, hlt⟩ hl2; have hl : HoldG S [S] _ ([] ++ tl) [] := hl.join hlt
 refine rm rfl ?_; refine re_end rfl ?_; refine xp_seq rfl ?_; refine xs (by kernel_rfl) ?_; refine rm rfl ?_; refine rr rfl (rd_len rfl rfl (len_slice Tryd.underlying23)) ?_; refine rm rfl ?_; refine re_end rfl ?_; refine xp_block rfl ?_
 -- LOOP
 refine xe_sub (L' := [(14, .int .i64 0), (13, .int .i64 C.length), (6, .slice aw C.length C.length), (5, .int .i64 0), (4, .slice none 0 0), (0, .func (.func 30) #[] #[ptrTo bf 0])]) ⟨rfl, rfl, rfl, rfl, rfl, rfl, trivial⟩ ?_
 refine xp_loop rfl (fun m Le S' => ∃ (i : Nat) (D : List Ev) (tl : List (Nat × Blk)), i ≤ C.length ∧ m = C.length - i ∧ D.length = C.length ∧ alN n (C.length - i) D i = alN n C.length C 0 ∧ TLe aw D tl ∧ SubE [(14, .int .i64 (i : Int)), (13, .int .i64 C.length), (6, .slice aw C.length C.length), (5, .int .i64 0), (4, .slice none 0 0), (0, .func (.func 30) #[] #[ptrTo bf 0])] Le ∧ HoldG S [S] S' ([] ++ tl) []) ?_ (m := C.length) ⟨0, C, tl, by omega, rfl, rfl, rfl, hT, ⟨rfl, rfl, rfl, rfl, rfl, rfl, trivial⟩, hl⟩
 clear hl; rintro m Le S' ⟨i, D, tl, hi, rfl, hD, hch, hT, hsub, hl⟩; refine xe_sub hsub ?_
 refine xs (by kernel_rfl) ?_; refine rr rfl (rd_bin rfl rfl rfl rfl) ?_; refine re_end rfl ?_; refine xp_seq rfl ?_; refine xp_cond rfl rfl (fun h15 => ?_) (fun h15 => ?_)
 ·
  have hlt : i < C.length := by have := of_decide_eq_true h15; omega
  obtain ⟨b, ks, haw, rfl⟩ := hT.pos (by omega)
  obtain ⟨x, hx⟩ := nth_some (l := D) (i := i) (by omega)
  have hxd := dI_at hx
  rw [show C.length - i = (C.length - (i + 1)) + 1 by omega] at hch
  have hrow := own_mem (b := b) (e := 39) (c := ((D.map Ev.cells).flatten)) (own := true) (kin := ks) hl (List.mem_append.2 (.inr (List.mem_cons_self ..)))
  refine xp_skip rfl ?_; refine xp_seq rfl ?_; refine xp_block rfl ?_; refine xs (by kernel_rfl) ?_; iterate 2 refine rm rfl ?_
  refine re_end rfl ?_; refine xs (by kernel_rfl) ?_; iterate 3 refine rm rfl ?_
  refine rr rfl (rd_indexAddr rfl rfl rfl (indexAddr_sl (z := 10) haw Tryd.underlying23 (by kernel_rfl) ⟨by omega, by omega⟩)) ?_; refine rr rfl (rd_load rfl rfl (loadN_row (z := 10) (l := x.cells) (by kernel_rfl) (by kernel_rfl) hrow (flat_take (f := Ev.cells) (fun _ => rfl) hx))) ?_
  refine re_callL hl rfl rfl rfl rfl rfl rfl rfl (spec30 x n bs bf (Nat.lt_of_lt_of_le hb hl.keep.1) ((hl.keep.2 bs hb).trans hg) (Nat.lt_of_lt_of_le hb2 hl.keep.1) ((hl.keep.2 bf hb2).trans hg2)) ?_; rintro v S1 hk1 rfl hl
  iterate 3 refine rm rfl ?_
  refine re_allocL hl rfl rfl rfl rfl rfl (z := [.int .i64 0, .int .i64 0, .int .i64 0, .int .i64 0, .int .i64 0, .int .i64 0, .int .i64 0, .bool false, .int .i64 0, .int .i64 0]) (by kernel_rfl) ?_; intro B8 S8 hl; refine re_storeL hl 0 rfl rfl rfl rfl rfl rfl rfl (by kernel_rfl) rfl ?_; intro S1 hl; refine rm rfl ?_; refine re_end rfl ?_; refine xp_seq rfl ?_; refine xs (by kernel_rfl) ?_; refine rm rfl ?_; refine rr rfl (rd_bin rfl rfl rfl rfl) ?_; refine re_end rfl ?_; refine xp_cond rfl rfl (fun h27 => ?_) (fun h27 => ?_)
  ·
   refine xs (by kernel_rfl) ?_; iterate 3 refine rm rfl ?_
   refine re_end rfl ?_; refine xp_ret rfl ?_
   rw [← hxd] at h27
   rw [alN_err h27] at hch
   refine thn_ret (blk_ret (thn_ret (round_ret (blk_ret (thn_ret (done_ret (ress_tmp rfl (ress_tmp rfl rfl)) ⟨hl.keep, ⟨aw, _, (hl.tail : HoldG S [S] _ ([] ++ _) []), .inr (by rw [all_1 (by rw [← hch]; exact h27), ← hch]; exact ⟨h27, by rw [hxd]⟩)⟩⟩))))))
  ·
   refine xp_skip rfl ?_; refine xg (by kernel_rfl) ?_; iterate 2 refine rm rfl ?_
   refine rr rfl (rd_load rfl rfl (loadN_of (z := 10) (by kernel_rfl) (by kernel_rfl) (hl.get 0 rfl) rfl)) ?_; refine rr rfl (rd_indexAddr rfl rfl rfl (indexAddr_sl (z := 10) haw Tryd.underlying23 (by kernel_rfl) ⟨by omega, by omega⟩)) ?_; refine re_storeT ([(B8, .cells (chP x n).1.cells 39 false true [])]) hl rfl rfl rfl rfl rfl rfl (by kernel_rfl) (setN_rowI (f := Ev.cells) (z := 10) (j := 0) (fun _ => rfl) rfl hx (y := (chP x n).1) rfl rfl) ?_; intro S1 hl; refine re_end rfl ?_; refine xg (by kernel_rfl) ?_; refine rr rfl (rd_bin rfl rfl rfl (i6 (by omega))) ?_; refine rm rfl ?_
   refine re_end rfl ?_
   rw [← hxd] at h27
   rw [alN_go h27, hxd] at hch
   exact ⟨C.length - (i + 1), by omega, i + 1, D.set i (chP x n).1, _, by omega, rfl, by rw [List.length_set]; exact hD, hch, by rw [haw]; exact TLe.put, ⟨rfl, rfl, rfl, rfl, rfl, rfl, trivial⟩, hl.tail⟩
 ·
  refine xp_exit rfl ?_; refine xs (by kernel_rfl) ?_; refine rm rfl ?_
  have hch2 : alN n C.length C 0 = (D, 0) := by rw [← hch, show C.length - i = 0 by have := of_decide_eq_false h15; omega]; rfl
  have hcc := spec35 [] aw D tl hF (by omega) hT hl
  rw [hD] at hcc
  refine re_call rfl rfl rfl rfl rfl rfl rfl (cc_mono hcc ?_); intro v S1 hw; obtain ⟨w, e, rfl⟩ := hw.is; have hk := hw.keep
  iterate 4 refine rm rfl ?_
  refine re_end rfl ?_; refine xp_ret rfl ?_
  refine done_ret (ress_tmp rfl (ress_tmp rfl rfl)) ⟨hk, ⟨aw, by rw [all_2 hch2]; exact hw⟩⟩
end Go.Proofs.YtlnenodplgpceaaDoor
namespace Go.Proofs.YtlnenodplgpceaaDoor
open Go.Cm Go
set_option maxRecDepth 100000
variable {S : St}
def mvVE (C : List Ev) (n : Int) : List Ev × Int := bif (evE C).1 != 0 then ([], (evE C).1) else allE C n
theorem mvV_1 {C : List Ev} {n : Int} (h : ((evE C).1 != 0) = true) : mvVE C n = ([], (evE C).1) := by unfold mvVE; rw [h]; rfl
theorem mvV_2 {C : List Ev} {n : Int} (h : ((evE C).1 != 0) = false) : mvVE C n = allE C n := by unfold mvVE; rw [h]; rfl
theorem chN_nil : ∀ (k : Nat) (D : List Ev) (i : Nat) (now : Ti), ((chN k D i now).2 != 0) = true → (chN k D i now).1 = []
 | 0, D, i, now, h => by cases h
 | k + 1, D, i, now, h => by
  cases hc : ((addE now (dI D i).dur).2 != 0) with
  | true => rw [chN_err hc]
  | false => rw [chN_go hc] at h ⊢; exact chN_nil k _ _ _ h
theorem all_nil {C : List Ev} {n : Int} (h : ((allE C n).2 != 0) = true) : (allE C n).1 = [] := by
 unfold allE at h ⊢
 cases hc : ((alN n C.length C 0).2 != 0) with
 | true => rfl
 | false =>
  rw [hc] at h
  exact chN_nil _ _ _ _ h
def EvR (S' : St) (q : List Ev × Int) (v : Value) : Prop := ∃ a cap, v = tupV [.slice a q.1.length cap, .int .i64 q.2] ∧ Evs S' (.slice a q.1.length cap) q.1
theorem WrE.evr {Sb S' : St} {aw : Option Addr} {n : Nat} {q : List Ev × Int} {v : Value} (h : WrE Sb [] aw n q v S') (hq : (q.2 != 0) = true → q.1 = []) : EvR S' q v := by
 obtain ⟨tl, hl, ⟨h0, hln, rfl, hT⟩ | ⟨hne, rfl⟩⟩ := h
 ·subst hln
  exact ⟨aw, _, by rw [h0], hT.evs hl⟩
 ·unfold EvR
  rw [hq hne]
  exact ⟨none, 0, rfl, LsOf.nil⟩
noncomputable def c10 : Code := Tryd.f10.body.getD .skip
theorem spec10 (n : Int) (a : Option Addr) (cap : Nat) (C : List Ev) (hF : Fresh S) (hv : Evs S (.slice a C.length cap) C) : CC Tryd.prog KK 10 [.slice a C.length cap, .int .i64 n] S (fun v S' => Keep S S' ∧ EvR S' (mvVE C n) v) := by
 refine cc_enter (c := c10) (n := 18) Tryd.func10 rfl rfl rfl (by kernel_rfl) rfl rfl ?_
 have hl := Hold.start S
 refine xs (by kernel_rfl) ?_; refine re_boxL hl rfl rfl rfl rfl rfl rfl ?_; intro B3 S3 hl; iterate 2 refine rm rfl ?_
 refine re_end rfl ?_; refine xp_seq rfl ?_; refine xs (by kernel_rfl) ?_; refine rm rfl ?_
 refine re_callL hl rfl rfl rfl rfl rfl rfl rfl (spec17 a cap C (hl.keep.3 hF) (hv.move (hl.since 0 rfl))) ?_; rintro v S1 hk1 rfl hl
 refine rm rfl ?_; refine re_end rfl ?_; refine xs (by kernel_rfl) ?_; refine rm rfl ?_; refine rr rfl (rd_bin rfl rfl rfl rfl) ?_; refine re_end rfl ?_; refine xp_cond rfl rfl (fun h10 => ?_) (fun h10 => ?_)
 ·
  refine xs (by kernel_rfl) ?_; iterate 3 refine rm rfl ?_
  refine re_end rfl ?_; refine xp_ret rfl ?_
  refine thn_ret (done_ret (ress_tmp rfl (ress_tmp rfl rfl)) ⟨hl.keep, by rw [mvV_1 h10]; exact ⟨none, 0, rfl, LsOf.nil⟩⟩)
 ·
  refine xp_skip rfl ?_; refine xs (by kernel_rfl) ?_; refine rr rfl (rd_func rfl rfl rfl) ?_
  refine re_callL hl rfl rfl rfl rfl rfl rfl rfl (spec18 B3) ?_; rintro v S1 hk1 ⟨bf, rfl, hb⟩ hl2; have hl := hl.join hb
  refine rm rfl ?_
  refine re_callL hl rfl rfl rfl rfl rfl rfl rfl (spec21 n B3 bf a cap C (hl.keep.3 hF) (by have := ev_len h10; omega) (hl.at_ B3 _ (nth_mem (k := 0) rfl)).2.2 (hl.get 0 rfl) (hl.at_ bf _ (nth_mem (k := 1) rfl)).2.2 (hl.get 1 rfl) (hv.move (hl.since 0 rfl))) ?_; rintro v S2 hk2 ⟨aw, hw⟩ hl; obtain ⟨w, e, rfl⟩ := hw.is
  iterate 4 refine rm rfl ?_
  refine re_end rfl ?_; refine xp_ret rfl ?_
  refine done_ret (ress_tmp rfl (ress_tmp rfl rfl)) ⟨hl.keep, by rw [mvV_2 h10]; exact hw.evr all_nil⟩
end Go.Proofs.YtlnenodplgpceaaDoor
namespace Go.Proofs.YtlnenodplgpceaaDoor
open Go.Cm Go
set_option maxRecDepth 100000
variable {S : St}
def sx (s : Nat) : Ti := tT (s : Int) 6
def duL : List (Ti × Nat) := [(⟨1, 1⟩, 6), (⟨2, 1⟩, 12), (⟨1, 2⟩, 3), (⟨3, 1⟩, 18), (⟨4, 1⟩, 24), (⟨3, 2⟩, 9), (⟨6, 1⟩, 36), (⟨2, 3⟩, 4), (⟨4, 3⟩, 8)]
def duX (n : Int) : Ti × Nat := (nth duL ((n.tdiv 63).tmod 9).toNat).getD (t0, 0)
def voEv (i : Nat) (u : Ti) (n : Int) : Ev := bif n.tdiv 567 == 6 then ⟨u, (duX n).1, p0, true, (i : Int), (n.tdiv 567).tmod 2⟩ else ⟨u, (duX n).1, ⟨n.tmod 7, 3 + (n.tdiv 7).tmod 3, (n.tdiv 21).tmod 3 - 1⟩, false, (i : Int), (n.tdiv 567).tmod 2⟩
theorem vo_1 {i : Nat} {u : Ti} {n : Int} (h : (n.tdiv 567 == 6) = true) : voEv i u n = ⟨u, (duX n).1, p0, true, (i : Int), (n.tdiv 567).tmod 2⟩ := by unfold voEv; rw [h]; rfl
theorem vo_2 {i : Nat} {u : Ti} {n : Int} (h : (n.tdiv 567 == 6) = false) : voEv i u n = ⟨u, (duX n).1, ⟨n.tmod 7, 3 + (n.tdiv 7).tmod 3, (n.tdiv 21).tmod 3 - 1⟩, false, (i : Int), (n.tdiv 567).tmod 2⟩ := by unfold voEv; rw [h]; rfl
theorem vo_dur {i : Nat} {u : Ti} {n : Int} : (voEv i u n).dur = (duX n).1 := by
 cases h : (n.tdiv 567 == 6) with
 | true => rw [vo_1 h]
 | false => rw [vo_2 h]
theorem vo_bd {n : Int} (h0 : 0 ≤ n) : (0 ≤ (n.tdiv 63).tmod 9 ∧ (n.tdiv 63).tmod 9 < 9) ∧ (-3 < (n.tdiv 7).tmod 3 ∧ (n.tdiv 7).tmod 3 < 3) ∧ (-3 < (n.tdiv 21).tmod 3 ∧ (n.tdiv 21).tmod 3 < 3) :=
 ⟨⟨Int.tmod_nonneg _ (Int.tdiv_nonneg h0 (by decide)), (tmod_bd _ (by decide)).2⟩, tmod_bd _ (by decide), tmod_bd _ (by decide)⟩
theorem du_at {n : Int} (h0 : 0 ≤ n) : nth (duL.map (·.1)) ((n.tdiv 63).tmod 9).toNat = some (duX n).1 := by
 have h := (vo_bd h0).1
 obtain ⟨x, hx⟩ := nth_some (l := duL) (i := ((n.tdiv 63).tmod 9).toNat) (by show _ < 9; omega)
 unfold duX
 rw [nth_map _ hx, hx]; rfl
def duB : Bool := (List.range 289).all fun s => duL.all fun d => decide (plT (sx s) d.1 = sx (s + d.2)) && (firstE [sx s, d.1] == 0) && decide (d.2 ≤ 36) && decide (0 < d.2)
theorem duB_ok : duB = true := by decide +kernel
theorem du_fact {s : Nat} (hs : s < 289) {n : Int} (h0 : 0 ≤ n) : plT (sx s) (duX n).1 = sx (s + (duX n).2) ∧ firstE [sx s, (duX n).1] = 0 ∧ (duX n).2 ≤ 36 ∧ 0 < (duX n).2 := by
 have h := duB_ok
 unfold duB at h
 rw [List.all_eq_true] at h
 have h := h s (List.mem_range.2 hs)
 rw [List.all_eq_true] at h
 have hb := (vo_bd h0).1
 obtain ⟨x, hx⟩ := nth_some (l := duL) (i := ((n.tdiv 63).tmod 9).toNat) (by show _ < 9; omega)
 have e : duX n = x := by unfold duX; rw [hx]; rfl
 have h := h x (nth_mem hx)
 rw [e]
 simpa [and_assoc] using h
def voG : List Int → Nat → Nat → Nat → List Ev
 | [], _, _, _ => []
 | _ :: _, 0, _, _ => []
 | x :: r, k + 1, i, s => voEv i (sx s) (modE x 3969) :: voG r k (i + 1) (s + (duX (modE x 3969)).2)
def voE (C : List Int) : List Ev := voG C 8 0 0
theorem voG_len : ∀ (C : List Int) (k i s : Nat), (voG C k i s).length ≤ k
 | [], _, _, _ => Nat.zero_le _
 | _ :: _, 0, _, _ => Nat.le_refl _
 | x :: r, k + 1, i, s => Nat.succ_le_succ (voG_len r k (i + 1) _)
theorem voG_end {C : List Int} {i k s : Nat} (h : (decide ((i : Int) < C.length) && decide ((i : Int) < 8)) = false) (hk : k = 8 - i) : voG (C.drop i) k i s = [] := by
 subst hk
 rw [Bool.and_eq_false_iff] at h
 rcases h with h | h
 ·have := of_decide_eq_false h
  rw [List.drop_eq_nil_of_le (by omega)]
  cases 8 - i <;> rfl
 ·have := of_decide_eq_false h
  rw [show 8 - i = 0 by omega]
  cases C.drop i <;> rfl
theorem vo_end {S S' : St} {C : List Int} {O : List Ev} {ao : Option Addr} {i s : Nat} (hp : O ++ voG (C.drop i) (8 - i) i s = voE C) (h : (decide ((i : Int) < C.length) && decide ((i : Int) < 8)) = false) (hg : Grow S S' (gOf 39 10 Ev.cells (.slice ao O.length O.length) O)) : ∃ av, (tupV [.slice ao O.length O.length] : Value) = .slice av (voE C).length (voE C).length ∧ Grow S S' (gOf 39 10 Ev.cells (.slice av (voE C).length (voE C).length) (voE C)) := by
 rw [voG_end h rfl, List.append_nil] at hp
 rw [← hp]
 exact ⟨ao, rfl, hg⟩
noncomputable def c4_ : Code := Tryd.f4.body.getD .skip
theorem spec4 (a : Option Addr) (cap : Nat) (C : List Int) (hF : Fresh S) (hv : Ints S (.slice a C.length cap) C) : CC Tryd.prog KK 4 [.slice a C.length cap, .int .i64 8] S (fun v S' => Keep S S' ∧ ∃ av, v = .slice av (voE C).length (voE C).length ∧ Grow S S' (gOf 39 10 Ev.cells (.slice av (voE C).length (voE C).length) (voE C))) := by
 refine cc_enter (c := c4_) (n := 75) Tryd.func4 rfl rfl rfl (by kernel_rfl) rfl rfl ?_
 have hl := Hold.start S
 refine xs (by kernel_rfl) ?_; refine rm rfl ?_; refine re_end rfl ?_; refine xs (by kernel_rfl) ?_; refine rr rfl (rd_build rfl rfl (v := aggL [.int .i64 1, .int .i64 1]) (by rfl)) ?_; refine rr rfl (rd_build rfl rfl (v := aggL [.int .i64 2, .int .i64 1]) (by rfl)) ?_; refine rr rfl (rd_build rfl rfl (v := aggL [.int .i64 1, .int .i64 2]) (by rfl)) ?_; refine rr rfl (rd_build rfl rfl (v := aggL [.int .i64 3, .int .i64 1]) (by rfl)) ?_; refine rr rfl (rd_build rfl rfl (v := aggL [.int .i64 4, .int .i64 1]) (by rfl)) ?_
 refine rr rfl (rd_build rfl rfl (v := aggL [.int .i64 3, .int .i64 2]) (by rfl)) ?_; refine rr rfl (rd_build rfl rfl (v := aggL [.int .i64 6, .int .i64 1]) (by rfl)) ?_; refine rr rfl (rd_build rfl rfl (v := aggL [.int .i64 2, .int .i64 3]) (by rfl)) ?_; refine rr rfl (rd_build rfl rfl (v := aggL [.int .i64 4, .int .i64 3]) (by rfl)) ?_; refine re_buildSliceR hl rfl rfl rfl rfl rfl Tryd.underlying44 rfl (c := ((duL.map (·.1)).map Ti.cells).flatten) (by kernel_rfl) ?_; intro B20 Sr hr20 hl
 have hl := hl.mark
 have hdu : Tis Sr (.slice (some ⟨B20, 0, none⟩) 9 9) (duL.map (·.1)) := LsOf.row (fun _ => rfl) hr20 rfl
 refine rm rfl ?_; refine re_end rfl ?_; refine xs (by kernel_rfl) ?_; refine rm rfl ?_; refine re_end rfl ?_; refine xs (by kernel_rfl) ?_
 refine re_callL hl rfl rfl rfl rfl rfl rfl rfl spec8 ?_; rintro v S1 hk1 rfl hl
 refine re_allocL hl rfl rfl rfl rfl rfl (z := [.int .i64 0, .int .i64 0]) (by kernel_rfl) ?_; intro B7 S7 hl; refine re_storeL hl 0 rfl rfl rfl rfl rfl rfl rfl (by kernel_rfl) rfl ?_; intro S1 hl; refine re_end rfl ?_; refine xp_seq rfl ?_; refine xs (by kernel_rfl) ?_; refine rm rfl ?_; refine re_end rfl ?_; refine xp_block rfl ?_
 -- LOOP
 have hl := hl.addG (g := gOf 39 10 Ev.cells (.slice none 0 0) ([] : List Ev)) (.inl ⟨rfl, rfl, rfl⟩)
 refine xe_sub (L' := [(8, .int .i64 0), (7, ptrTo B7 0), (6, .slice none ([] : List Ev).length ([] : List Ev).length), (5, .slice (some ⟨B20, 0, none⟩) 9 9), (4, .slice none 0 0), (0, .slice a C.length cap), (1, .int .i64 8)]) ⟨rfl, rfl, rfl, rfl, rfl, rfl, rfl, trivial⟩ ?_
 refine xp_loop rfl (fun m Le S' => ∃ (i s : Nat) (O : List Ev) (ao : Option Addr), i ≤ 8 ∧ m = 8 - i ∧ s ≤ 36 * i ∧ O.length = i ∧ O ++ voG (C.drop i) (8 - i) i s = voE C ∧ SubE [(8, .int .i64 (i : Int)), (7, ptrTo B7 0), (6, .slice ao O.length O.length), (5, .slice (some ⟨B20, 0, none⟩) 9 9), (4, .slice none 0 0), (0, .slice a C.length cap), (1, .int .i64 8)] Le ∧ HoldG S [Sr, S] S' [(B7, .cells (sx s).cells 33 false true [])] [gOf 39 10 Ev.cells (.slice ao O.length O.length) O]) ?_ (m := 8) ⟨0, 0, [], none, by omega, rfl, by omega, rfl, rfl, ⟨rfl, rfl, rfl, rfl, rfl, rfl, rfl, trivial⟩, hl⟩
 clear hl; rintro m Le S' ⟨i, s, O, ao, hi, rfl, hs, hO, hpr, hsub, hl⟩; refine xe_sub hsub ?_
 refine xp_seq rfl ?_; refine xp_seq rfl (xe_toE hl 30 (.bool (decide ((i : Int) < C.length) && decide ((i : Int) < 8))) ?_ rfl ?_)
 ·
  refine xg (by kernel_rfl) ?_; iterate 2 refine rm rfl ?_
  refine rr rfl (rd_len rfl rfl (len_slice Tryd.underlying22)) ?_; refine rr rfl (rd_bin rfl rfl rfl rfl) ?_; refine rm rfl ?_; refine re_bool (d := 26) rfl (fun h26 => ?_) (fun h26 => ?_)
  ·
   iterate 2 refine rm rfl ?_
   refine rr rfl (rd_bin rfl rfl rfl rfl) ?_; refine rm rfl ?_; refine re_end rfl ?_
   exact ⟨rfl, bl (by first | (simp [h26]; done) | (simp only [h26, BLs])), by repeat (first | exact subL_refl _ | refine subL_skip rfl ?_), hl⟩
  ·
   iterate 3 refine rz rfl ?_
   refine rm rfl ?_; refine re_end rfl ?_
   exact ⟨rfl, bl (by first | (simp [h26]; done) | (simp only [h26, BLs])), by repeat (first | exact subL_refl _ | refine subL_skip rfl ?_), hl⟩
 intro S1 hl
 refine xp_cond rfl rfl (fun h30 => ?_) (fun h30 => ?_)
 ·
  have hlt : i < C.length ∧ i < 8 := by simp at h30; omega
  obtain ⟨x, hx⟩ := nth_some hlt.1
  obtain ⟨b1, o1, cs1, ha, _, hrow, htk⟩ := hv.elem hx
  rw [drop_nth' hx, show 8 - i = (8 - (i + 1)) + 1 by omega] at hpr
  have hm := modE_bd x (n := 3969) (by decide)
  have hbd := vo_bd hm.1
  have hdf := du_fact (s := s) (by omega) hm.1
  refine xp_skip rfl ?_; refine xp_seq rfl ?_; refine xp_block rfl ?_; refine xs (by kernel_rfl) ?_; iterate 2 refine rm rfl ?_
  refine rr rfl (rd_indexAddr rfl rfl rfl (indexAddr_sl (z := 1) ha Tryd.underlying22 (by kernel_rfl) ⟨by omega, by omega⟩)) ?_; refine rr rfl (rd_load rfl rfl (load1_row (by kernel_rfl) (row_move (hl.since 1 rfl) hrow) (tk_nth (j := 0) htk rfl))) ?_
  refine re_callL hl rfl rfl rfl rfl rfl rfl rfl (spec9 x 3969 (by omega) (by omega)) ?_; rintro v S1 hk1 rfl hl
  refine rm rfl ?_; refine re_end rfl ?_; refine xp_seq rfl ?_; refine xp_draw (idx := [0, 1, 2, 3, 4, 5, 6, 7, 8, 9, 10, 11, 12, 13]) rfl (by kernel_rfl) (by kernel_rfl) ?_; refine pk rfl (rd_load rfl rfl (loadN_of (z := 2) (by kernel_rfl) (by kernel_rfl) (hl.get 0 rfl) rfl)) ?_; iterate 2 refine pm rfl ?_
  refine pr rfl (rd_bin rfl rfl rfl (quoV (by decide) hm.1 (by omega))) ?_; refine pr rfl (rd_bin rfl rfl rfl (remV (by decide))) ?_; refine pr rfl (rd_indexAddr rfl rfl rfl (indexAddr_slice (z := 2) Tryd.underlying44 (by kernel_rfl) hbd.1)) ?_; refine pk rfl (rd_load rfl rfl (loadN_row (z := 2) (l := (duX (modE x 3969)).1.cells) (by kernel_rfl) (by kernel_rfl) (row_move (hl.since 0 rfl) hr20) (flat_take (f := Ti.cells) (fun _ => rfl) (du_at hm.1)))) ?_; iterate 2 refine pm rfl ?_
  refine pr rfl (rd_bin rfl rfl rfl (quoV (by decide) hm.1 (by omega))) ?_; refine pr rfl (rd_bin rfl rfl rfl (remV (by decide))) ?_; refine pr rfl (rd_build rfl rfl (v := aggL [.int .i64 (sx s).n, .int .i64 (sx s).d, .int .i64 (duX (modE x 3969)).1.n, .int .i64 (duX (modE x 3969)).1.d, .int .i64 0, .int .i64 0, .int .i64 0, .bool false, .int .i64 (i : Int), .int .i64 (((modE x 3969).tdiv 567).tmod 2)]) (by rfl)) ?_
  refine rp_allocL hF hl rfl rfl rfl rfl rfl (z := [.int .i64 0, .int .i64 0, .int .i64 0, .int .i64 0, .int .i64 0, .int .i64 0, .int .i64 0, .bool false, .int .i64 0, .int .i64 0]) (by kernel_rfl) ?_; intro B10 S10 hl
  refine rp_storeL hl 0 rfl rfl rfl rfl rfl rfl rfl (by kernel_rfl) rfl ?_; intro S1 hl; refine ⟨stays_all (by kernel_rfl), ?_⟩
  refine rp_end rfl ?_; refine xp_seq rfl (xe_cut (fun Le S' => SubE [(10, ptrTo B10 0), (8, .int .i64 (i : Int)), (7, ptrTo B7 0), (6, .slice ao O.length O.length), (5, .slice (some ⟨B20, 0, none⟩) 9 9), (4, .slice none 0 0), (0, .slice a C.length cap), (1, .int .i64 8)] Le ∧ HoldG S [Sr, S] S' [(B10, .cells (voEv i (sx s) (modE x 3969)).cells 39 false true []), (B7, .cells (sx s).cells 33 false true [])] [gOf 39 10 Ev.cells (.slice ao O.length O.length) O]) ?_ ?_)
  ·
   refine xs (by kernel_rfl) ?_; refine rm rfl ?_; refine rr rfl (rd_bin rfl rfl rfl (quoV (by decide) hm.1 (by omega))) ?_; refine rr rfl (rd_bin rfl rfl rfl rfl) ?_; refine re_end rfl ?_; refine xp_cond rfl rfl (fun h52 => ?_) (fun h52 => ?_)
   ·
    refine xg (by kernel_rfl) ?_; refine rr rfl (rd_fieldAddr rfl rfl (fa Tryd.underlying39 az39 rfl)) ?_; refine re_storeL hl 0 rfl rfl rfl rfl rfl rfl rfl (by kernel_rfl) rfl ?_; intro S1 hl; refine re_end rfl ?_
    exact ⟨rfl, ⟨rfl, rfl, rfl, rfl, rfl, rfl, rfl, rfl, trivial⟩, by rw [vo_1 h52]; exact hl⟩
   ·
    refine xg (by kernel_rfl) ?_; refine rm rfl ?_; refine rr rfl (rd_bin rfl rfl rfl (remV (by decide))) ?_; refine rm rfl ?_; refine rr rfl (rd_bin rfl rfl rfl (quoV (by decide) hm.1 (by omega))) ?_; refine rr rfl (rd_bin rfl rfl rfl (remV (by decide))) ?_; refine rr rfl (rd_bin rfl rfl rfl (i6 (by omega))) ?_; refine rm rfl ?_; refine rr rfl (rd_bin rfl rfl rfl (quoV (by decide) hm.1 (by omega))) ?_; refine rr rfl (rd_bin rfl rfl rfl (remV (by decide))) ?_; refine rr rfl (rd_bin rfl rfl rfl (i6 (by omega))) ?_
    refine rr rfl (rd_build rfl rfl (v := aggL [.int .i64 ((modE x 3969).tmod 7), .int .i64 (3 + ((modE x 3969).tdiv 7).tmod 3), .int .i64 (((modE x 3969).tdiv 21).tmod 3 - 1)]) (by rfl)) ?_; refine rr rfl (rd_fieldAddr rfl rfl (fa Tryd.underlying39 az39 rfl)) ?_; refine re_storeL hl 0 rfl rfl rfl rfl rfl rfl rfl (by kernel_rfl) rfl ?_; intro S1 hl; refine re_end rfl ?_
    exact ⟨rfl, ⟨rfl, rfl, rfl, rfl, rfl, rfl, rfl, rfl, trivial⟩, by rw [vo_2 h52]; exact hl⟩
  clear hl; rintro Le3 S1 ⟨hsub3, hl⟩; refine xe_sub hsub3 ?_
  refine xs (by kernel_rfl) ?_; refine rm rfl ?_; refine rr rfl (rd_load rfl rfl (loadN_of (z := 10) (by kernel_rfl) (by kernel_rfl) (hl.get 0 rfl) rfl)) ?_; refine re_buildSliceR hl rfl rfl rfl rfl rfl Tryd.underlying23 rfl (c := (voEv i (sx s) (modE x 3969)).cells) (by kernel_rfl) ?_; intro B68 S1 hr68 hl; refine re_appendG hl 0 rfl rfl (by simp) rfl rfl rfl rfl rfl rfl rfl Tryd.underlying23 Tryd.underlying23 rfl rfl (by kernel_rfl) (src_row (new := (voEv i (sx s) (modE x 3969)).cells) hr68 rfl) rfl rfl (by kernel_rfl) (by show O.length + 1 ≤ maxNeed; unfold maxNeed; omega) ?_; intro v69 S1 hl
  obtain ⟨av3, rfl⟩ : ∃ av3, v69 = .slice av3 (O.length + 1) (O.length + 1) := Grow.is (hl.gr _ (List.mem_cons_self ..))
  refine rm rfl ?_; refine re_end rfl ?_; refine xg (by kernel_rfl) ?_; refine rr rfl (rd_load rfl rfl (loadN_of (z := 2) (by kernel_rfl) (by kernel_rfl) (hl.get 1 rfl) rfl)) ?_; refine rr rfl (rd_fieldAddr rfl rfl (fa Tryd.underlying39 az39 rfl)) ?_; refine rr rfl (rd_load rfl rfl (loadN_of (z := 2) (l := (voEv i (sx s) (modE x 3969)).dur.cells) (by kernel_rfl) (by kernel_rfl) (hl.get 0 rfl) rfl)) ?_
  refine re_callL hl rfl rfl rfl rfl rfl rfl rfl (spec11 (sx s) (voEv i (sx s) (modE x 3969)).dur (hl.keep.3 hF) (by rw [vo_dur, hdf.2.1]; rfl)) ?_; rintro v S1 hk1 rfl hl
  refine re_storeL hl 1 rfl rfl rfl rfl rfl rfl rfl (by kernel_rfl) rfl ?_; intro S1 hl; refine re_end rfl ?_; refine xg (by kernel_rfl) ?_; refine rm rfl ?_; refine rr rfl (rd_bin rfl rfl rfl (i6 (by omega))) ?_; refine rm rfl ?_; refine re_end rfl ?_
  refine ⟨8 - (i + 1), by omega, i + 1, s + (duX (modE x 3969)).2, O ++ [(voEv i (sx s) (modE x 3969))], av3, by omega, rfl, by omega, by rw [List.length_append, hO]; rfl, by rw [List.append_assoc]; exact hpr, ⟨rfl, rfl, congrArg some (congrArg (fun n => Value.slice av3 n n) (by rw [List.length_append]; rfl)), rfl, rfl, rfl, rfl, trivial⟩, ?_⟩
  rw [gOf_push, ← hdf.1, ← vo_dur (i := i) (u := sx s)]
  exact hl.tail
 ·
  refine xp_exit rfl ?_; refine xs (by kernel_rfl) ?_; iterate 2 refine rm rfl ?_
  refine re_end rfl ?_; refine xp_ret rfl ?_
  refine done_ret (ress_tmp rfl rfl) ⟨hl.keep, vo_end hpr h30 (hl.gr _ (List.mem_cons_self ..))⟩
end Go.Proofs.YtlnenodplgpceaaDoor
namespace Go.Proofs.YtlnenodplgpceaaDoor
open Go.Cm Go
set_option maxRecDepth 100000
variable {S : St}
def kc2 (p : Int × Int) : Value := aggL [.int .i64 p.1, .int .i64 p.2]
theorem eqElems_cons {P : Program} {eq : TypeId → Value → Value → Option Bool} {elem size n i : Nat} {xs ys : List Value} {x y : Value} {b r : Bool} (hx : partL P elem xs (i * size) = some x) (hy : partL P elem ys (i * size) = some y) (he : eq elem x y = some b) (hr : eqElems P eq elem size xs ys n (i + 1) = some r) : eqElems P eq elem size xs ys (n + 1) i = some (b && r) := by
 unfold eqElems
 simp only [hx, hy, he]
 cases b with
 | true => simpa using hr
 | false => rfl
theorem eq_array {P : Program} {d t len elem n : Nat} {xs ys : List Value} {r : Bool} (hu : P.underlying t = some (.array len elem)) (hz : szOf P elem = some n) (h : eqElems P (eqV P d) elem n xs ys len 0 = some r) : eqV P (d + 1) t (aggL xs) (aggL ys) = some r := by
 unfold eqV aggL
 simp only [hu, hz, h]
theorem kc2_eq (a b : Int × Int) : eqV Tryd.prog eqDepth 128 (kc2 a) (kc2 b) = some (decide (a = b)) := by
 have h : eqV Tryd.prog 40 128 (aggL [.int .i64 a.1, .int .i64 a.2]) (aggL [.int .i64 b.1, .int .i64 b.2]) = some ((a.1 == b.1) && ((a.2 == b.2) && true)) :=
  eq_array (n := 1) Tryd.underlying128 (by kernel_rfl) (eqElems_cons (part1 (by kernel_rfl) rfl) (part1 (by kernel_rfl) rfl) (eq_int Tryd.underlying3) (eqElems_cons (part1 (by kernel_rfl) rfl) (part1 (by kernel_rfl) rfl) (eq_int Tryd.underlying3) rfl))
 refine h.trans (congrArg some ?_)
 obtain ⟨a1, a2⟩ := a
 obtain ⟨b1, b2⟩ := b
 rw [Bool.eq_iff_iff]
 simp
theorem kc2_ok (p : Int × Int) : keyOk Tryd.prog 20 128 (kc2 p) = true := by
 show keyOk Tryd.prog (19 + 1) 128 (aggL [.int .i64 p.1, .int .i64 p.2]) = true
 kernel_rfl
theorem kc2_pl (p : Int × Int) : plainKey 20 (kc2 p) = true := rfl
theorem kc2_sm (p : Int × Int) : sameV 1000 (kc2 p) (kc2 p) = true := by
 show sameV (999 + 1) (.agg _) (.agg _) = true
 unfold sameV
 exact sameL_atoms _ 999 (by decide : 2 < 999) (atoms_cons (atom_int _ _) (atoms_cons (atom_int _ _) atoms_nil))
def kD {κ : Type} (D : List (κ × Int)) : List (κ × Value) := D.map fun p => (p.1, Value.int .i64 p.2)
def lkI {κ : Type} [DecidableEq κ] : List (κ × Int) → κ → Int
 | [], _ => 0
 | (a, w) :: r, k => if k = a then w else lkI r k
def putI {κ : Type} [DecidableEq κ] : List (κ × Int) → κ → Int → List (κ × Int)
 | [], k, v => [(k, v)]
 | (a, w) :: r, k, v => if k = a then (a, v) :: r else (a, w) :: putI r k v
section
variable {κ : Type} [DecidableEq κ]
theorem kD_put : ∀ (D : List (κ × Int)) (k : κ) (v : Int), putA (kD D) k (.int .i64 v) = kD (putI D k v)
 | [], k, v => rfl
 | (a, w) :: r, k, v => by
  show putA ((a, Value.int .i64 w) :: kD r) k _ = _
  unfold putA putI
  by_cases h : k = a
  ·rw [if_pos h, if_pos h]; rfl
  ·rw [if_neg h, if_neg h, kD_put r k v]; rfl
theorem kD_get : ∀ (D : List (κ × Int)) (k : κ), (asc (kD D) k).getD (.int .i64 0) = .int .i64 (lkI D k)
 | [], k => rfl
 | (a, w) :: r, k => by
  have ih := kD_get r k
  show (asc ((a, Value.int .i64 w) :: kD r) k).getD _ = _
  unfold lkI
  unfold asc at ih ⊢
  unfold posA
  by_cases h : k = a
  ·rw [if_pos h, if_pos h]; rfl
  ·rw [if_neg h, if_neg h, ← ih]
   cases posA (kD r) k <;> rfl
theorem lkI_put : ∀ (D : List (κ × Int)) (k : κ) (v : Int) (k' : κ), lkI (putI D k v) k' = if k' = k then v else lkI D k'
 | [], k, v, k' => by
  unfold putI lkI lkI
  rfl
 | (a, w) :: r, k, v, k' => by
  unfold putI
  by_cases h : k = a
  ·rw [if_pos h]
   unfold lkI
   by_cases h2 : k' = a
   ·rw [if_pos h2, if_pos (by rw [h, h2])]
   ·rw [if_neg h2, if_neg (fun e => h2 (by rw [e, h])), if_neg h2]
  ·rw [if_neg h]
   unfold lkI
   rw [lkI_put r k v k']
   by_cases h2 : k' = a
   ·subst h2
    rw [if_pos rfl, if_neg (fun e => h e.symm), if_pos rfl]
   ·rw [if_neg h2, if_neg h2]
end
abbrev PD := List ((Int × Int) × Int)
def Kds (S : St) (v : Value) (M : List PD) : Prop := ∃ ws : List Value, LsOf 125 1 (fun w => [w]) S v ws ∧ ws.length = M.length ∧ ∀ k w D, nth ws k = some w → nth M k = some D → ∃ r, w = .map (some r) ∧ r < S.size ∧ S.get r = some (mapB kc2 (kD D))
theorem Kds.keep {S S' : St} (h : Keep S S') {v : Value} {M : List PD} (hs : Kds S v M) : Kds S' v M := by
 obtain ⟨ws, h1, h2, h3⟩ := hs
 refine ⟨ws, h1.move h.rk, h2, fun k w D a b => ?_⟩
 obtain ⟨r, e1, e2, e3⟩ := h3 k w D a b
 exact ⟨r, e1, Nat.lt_of_lt_of_le e2 h.1, (h.2 r e2).trans e3⟩
theorem Kds.elem {S : St} {a : Option Addr} {n cap : Nat} {M : List PD} (h : Kds S (.slice a n cap) M) {k : Nat} {D : PD} (hk : nth M k = some D) :
  ∃ b o cs r, a = some ⟨b, o, none⟩ ∧ n = M.length ∧ RowAt S b 125 cs ∧ nth cs (o + k * 1) = some (.map (some r)) ∧ r < S.size ∧ S.get r = some (mapB kc2 (kD D)) := by
 obtain ⟨ws, h1, h2, h3⟩ := h
 obtain ⟨w, hw⟩ := nth_some (l := ws) (i := k) (by have := nth_lt hk; omega)
 obtain ⟨b, o, cs, e1, e2, e3, e4⟩ := h1.elem hw
 obtain ⟨r, rfl, e5, e6⟩ := h3 k w D hw hk
 exact ⟨b, o, cs, r, e1, e2.trans h2, e3, tk_nth e4 (j := 0) rfl, e5, e6⟩
def minI (a b : Int) : Int := if b < a then b else a
def maxI (a b : Int) : Int := if b > a then b else a
def clK (M : List PD) (n a b : Nat) : Int := lkI ((nth M n).getD []) (minI (a : Int) (b : Int), maxI (a : Int) (b : Int))
theorem clK_at {M : List PD} {n a b : Nat} {D : PD} (h : nth M n = some D) : clK M n a b = lkI D (minI (a : Int) (b : Int), maxI (a : Int) (b : Int)) := by unfold clK; rw [h]; rfl
structure KSet (S : St) (b : Nat) (aV aS aK : Option Addr) (cV cS cK : Nat) (V : List (List Ev)) (L : List Sl) (M : List PD) : Prop where
 d : DSet S b aV aS cV cS (.slice aK M.length cK) V L
 k : Kds S (.slice aK M.length cK) M
 len : M.length = L.length
 lo : ∀ n v, -1 ≤ evI L n v
theorem KSet.keep {S T : St} {b : Nat} {aV aS aK : Option Addr} {cV cS cK : Nat} {V : List (List Ev)} {L : List Sl} {M : List PD} (h : KSet S b aV aS aK cV cS cK V L M) (hk : Keep S T) : KSet T b aV aS aK cV cS cK V L M := ⟨h.d.keep hk, h.k.keep hk, h.len, h.lo⟩
noncomputable def c55 : Code := Tryd.f55.body.getD .skip
theorem spec55 (bd : Nat) (aV aS aK : Option Addr) (cV cS cK : Nat) (V : List (List Ev)) (L : List Sl) (M : List PD) (n a b : Nat) (hd : KSet S bd aV aS aK cV cS cK V L M) (hnn : n < L.length) : CC Tryd.prog KK 55 [ptrTo bd 0, .int .i64 (n : Int), .int .i64 (a : Int), .int .i64 (b : Int)] S (fun v S' => Keep S S' ∧ v = .int .i64 (clK M n a b)) := by
 refine cc_enter (c := c55) (n := 24) Tryd.func55 rfl rfl rfl (by kernel_rfl) rfl rfl ?_
 have hl := Hold.start S
 have hml := hd.len
 obtain ⟨D, hD⟩ := nth_some (l := M) (i := n) (by omega)
 obtain ⟨b1, o1, cs1, r1, ha, _, hrow, htk, hr1, hr2⟩ := hd.k.elem hD
 refine xs (by kernel_rfl) ?_; refine rm rfl ?_; refine re_end rfl ?_; refine xs (by kernel_rfl) ?_; refine rm rfl ?_; refine rr rfl (rd_nilCheck rfl rfl rfl) ?_; refine rr rfl (rd_fieldAddr rfl rfl (fa Tryd.underlying118 az118 rfl)) ?_; refine rr rfl (rd_load rfl rfl (load1_of (by kernel_rfl) (hd.d.at_ hl.keep) rfl)) ?_; refine rm rfl ?_; refine rr rfl (rd_indexAddr rfl rfl rfl (indexAddr_sl (z := 1) ha Tryd.underlying116 (by kernel_rfl) ⟨by omega, by omega⟩)) ?_; refine rr rfl (rd_load rfl rfl (load1_row (by kernel_rfl) (row_move (hl.since 0 rfl) hrow) htk)) ?_; iterate 2 refine rm rfl ?_
 refine re_builtin (v := .int .i64 (minI (a : Int) (b : Int))) rfl rfl rfl rfl rfl rfl rfl rfl ?_; iterate 2 refine rm rfl ?_
 refine re_builtin (v := .int .i64 (maxI (a : Int) (b : Int))) rfl rfl rfl rfl rfl rfl rfl rfl ?_; refine rr rfl (rd_build rfl rfl (v := aggL [.int .i64 (minI (a : Int) (b : Int)), .int .i64 (maxI (a : Int) (b : Int))]) (by rfl)) ?_; refine rr rfl (rd_lookup rfl rfl rfl ((lookup_of (k := (minI (a : Int) (b : Int), maxI (a : Int) (b : Int))) Tryd.underlying125 ((hl.keep.2 r1 hr1).trans hr2) kc2_eq (kc2_ok _) (z := .int .i64 0) (by kernel_rfl)).trans (congrArg some (kD_get D _)))) ?_; refine rm rfl ?_; refine re_end rfl ?_; refine xp_ret rfl ?_
 refine done_ret (ress_tmp rfl rfl) ⟨hl.keep, congrArg (Value.int .i64) (clK_at hD).symm⟩
end Go.Proofs.YtlnenodplgpceaaDoor
namespace Go.Proofs.YtlnenodplgpceaaDoor
open Go.Cm Go
set_option maxRecDepth 100000
variable {S : St}
def susB (V : List (List Ev)) (L : List Sl) (M : List PD) (n mv hh : Nat) (k : Int) : Bool := (((((n : Int) == 0) || (evI L (n - 1) hh != k)) || (clK M (n - 1) mv hh != 0)) || (stpE V hh k != -1))
def suG (L : List Sl) (M : List PD) (mv hh : Nat) (i k : Int) : Nat → Nat → Bool
 | 0, _ => false
 | f + 1, n => bif evI L n hh == k + 1 then (evI L n mv == i) && (clK M n mv hh == 0) else suG L M mv hh i k f (n + 1)
def suE (V : List (List Ev)) (L : List Sl) (M : List PD) (n mv hh : Nat) (i k : Int) : Bool := bif susB V L M n mv hh k then false else suG L M mv hh i k (L.length - (n + 1)) (n + 1)
theorem su_1 {V : List (List Ev)} {L : List Sl} {M : List PD} {n mv hh : Nat} {i k : Int} (h : susB V L M n mv hh k = true) : suE V L M n mv hh i k = false := by unfold suE; rw [h]; rfl
theorem su_2 {V : List (List Ev)} {L : List Sl} {M : List PD} {n mv hh : Nat} {i k : Int} (h : susB V L M n mv hh k = false) : suE V L M n mv hh i k = suG L M mv hh i k (L.length - (n + 1)) (n + 1) := by unfold suE; rw [h]; rfl
theorem suG_1 {L : List Sl} {M : List PD} {mv hh : Nat} {i k : Int} {f n : Nat} (h : (evI L n hh == k + 1) = true) : suG L M mv hh i k (f + 1) n = ((evI L n mv == i) && (clK M n mv hh == 0)) := by rw [suG, h]; rfl
theorem suG_2 {L : List Sl} {M : List PD} {mv hh : Nat} {i k : Int} {f n : Nat} (h : (evI L n hh == k + 1) = false) : suG L M mv hh i k (f + 1) n = suG L M mv hh i k f (n + 1) := by rw [suG, h]; rfl
noncomputable def c71 : Code := Tryd.f71.body.getD .skip
theorem spec71 (bd : Nat) (aV aS aK : Option Addr) (cV cS cK : Nat) (V : List (List Ev)) (L : List Sl) (M : List PD) (n mv hh : Nat) (i k : Int) (hF : Fresh S) (hG : Gl S) (hd : KSet S bd aV aS aK cV cS cK V L M) (hnn : n < L.length) (hmv : mv < V.length) (hhh : hh < V.length) (hk1 : -10 ≤ k) (hk2 : k ≤ 10000) : CC Tryd.prog KK 71 [ptrTo bd 0, aggL [.int .i64 (n : Int), .int .i64 (mv : Int), .int .i64 (hh : Int), .int .i64 i, .int .i64 k]] S (fun v S' => Keep S S' ∧ v = .bool (suE V L M n mv hh i k)) := by
 refine cc_enter (c := c71) (n := 102) Tryd.func71 rfl rfl rfl (by kernel_rfl) rfl rfl ?_
 have hl := Hold.start S
 have hs := hd.d.set
 have hLL := hs.hL
 refine xs (by kernel_rfl) ?_; refine re_boxL hl rfl rfl rfl rfl rfl rfl ?_; intro B3 S3 hl; refine rm rfl ?_; refine re_end rfl ?_; refine xp_seq rfl ?_; refine xp_seq rfl (xe_toE hl 48 (.bool (susB V L M n mv hh k)) ?_ rfl ?_)
 ·
  refine xp_draw (idx := [0, 1, 2, 3, 4, 5, 6, 7, 8, 9, 10, 11, 12, 13, 14, 15, 16, 17, 18, 19, 20, 21, 22, 23, 24, 25, 26, 27, 28, 29, 30, 31, 32, 33, 34, 35, 36, 37, 38, 39, 40, 41, 42]) rfl (by kernel_rfl) (by kernel_rfl) ?_; refine pr rfl (rd_fieldAddr rfl rfl (fa Tryd.underlying154 az154 rfl)) ?_; refine pk rfl (rl hl 0 rfl rfl (by kernel_rfl) rfl rfl) ?_; refine pr rfl (rd_bin rfl rfl rfl rfl) ?_; refine pm rfl ?_; refine rp_bool (d := 9) rfl (fun h9 => ?_) (fun h9 => ?_)
  ·
   iterate 17 refine pz rfl ?_
   iterate 2 refine pm rfl ?_
   iterate 10 refine pz rfl ?_
   iterate 2 refine pm rfl ?_
   iterate 7 refine pz rfl ?_
   refine pm rfl ?_; refine rp_end rfl ?_
   exact ⟨rfl, bl (by unfold susB; rw [h9]; rfl), by repeat (first | exact subL_refl _ | refine subL_skip rfl ?_), hl⟩
  ·
   have hn0 : n ≠ 0 := by rintro rfl; cases h9
   obtain ⟨sp, hsnp⟩ := nth_some (l := L) (i := ((n : Int) - 1).toNat) (by omega)
   obtain ⟨bp, op, csp, awp, cwp, hap, _, hrowp, htkp, hivp⟩ := hs.sl.elem hsnp
   obtain ⟨hwlp, hwip⟩ := hs.wf _ sp hsnp
   obtain ⟨ihhp, hihhp⟩ := nth_some (l := sp.ev) (i := hh) (by omega)
   obtain ⟨bhhp, ohhp, cshhp, hahhp, _, hrowhhp, htkhhp⟩ := hivp.elem hihhp
   have heihhp := evI_at hsnp hihhp
   rw [show ((n : Int) - 1).toNat = n - 1 by omega] at heihhp
   have hcl := fun {T : St} (hk : Keep S T) => spec55 bd aV aS aK cV cS cK V L M (n - 1) mv hh (hd.keep hk) (by omega)
   rw [show (((n - 1 : Nat)) : Int) = (n : Int) - 1 by omega] at hcl
   refine pm rfl ?_; refine pr rfl (rd_nilCheck rfl rfl rfl) ?_; refine pr rfl (rd_fieldAddr rfl rfl (fa Tryd.underlying118 az118 rfl)) ?_; refine pk rfl (rd_load rfl rfl (load1_of (by kernel_rfl) (hd.d.at_ hl.keep) rfl)) ?_; refine pr rfl (rd_fieldAddr rfl rfl (fa Tryd.underlying154 az154 rfl)) ?_; refine pk rfl (rl hl 0 rfl rfl (by kernel_rfl) rfl rfl) ?_; refine pr rfl (rd_bin rfl rfl rfl (i6 (by omega))) ?_; refine pr rfl (rd_indexAddr rfl rfl rfl (indexAddr_sl (z := 5) hap Tryd.underlying88 (by kernel_rfl) ⟨by omega, by omega⟩)) ?_
   refine pr rfl (rd_fieldAddr rfl rfl (fa Tryd.underlying131 az131 rfl)) ?_; refine pk rfl (rd_load rfl rfl (load1_row (by kernel_rfl) (row_move (hl.since 0 rfl) hrowp) (tk_nth (j := 4) htkp rfl))) ?_; refine pr rfl (rd_fieldAddr rfl rfl (fa Tryd.underlying154 az154 rfl)) ?_; refine pk rfl (rl hl 0 rfl rfl (by kernel_rfl) rfl rfl) ?_; refine pr rfl (rd_indexAddr rfl rfl rfl (indexAddr_sl (z := 1) hahhp Tryd.underlying22 (by kernel_rfl) ⟨by omega, by omega⟩)) ?_; refine pk rfl (rd_load rfl rfl (load1_row (by kernel_rfl) (row_move (hl.since 0 rfl) hrowhhp) (tk_nth (j := 0) htkhhp rfl))) ?_
   refine pr rfl (rd_fieldAddr rfl rfl (fa Tryd.underlying154 az154 rfl)) ?_; refine pk rfl (rl hl 0 rfl rfl (by kernel_rfl) rfl rfl) ?_; refine pr rfl (rd_bin rfl rfl rfl rfl) ?_; iterate 2 refine pm rfl ?_
   refine rp_bool (d := 28) rfl (fun h28 => ?_) (fun h28 => ?_)
   ·
    iterate 10 refine pz rfl ?_
    iterate 2 refine pm rfl ?_
    iterate 7 refine pz rfl ?_
    refine pm rfl ?_; refine rp_end rfl ?_
    exact ⟨rfl, bl (by unfold susB; rw [h9, heihhp, h28]; rfl), by repeat (first | exact subL_refl _ | refine subL_skip rfl ?_), hl⟩
   ·
    refine pm rfl ?_; refine pr rfl (rd_fieldAddr rfl rfl (fa Tryd.underlying154 az154 rfl)) ?_; refine pk rfl (rl hl 0 rfl rfl (by kernel_rfl) rfl rfl) ?_; refine pr rfl (rd_bin rfl rfl rfl (i6 (by omega))) ?_; refine pr rfl (rd_fieldAddr rfl rfl (fa Tryd.underlying154 az154 rfl)) ?_; refine pk rfl (rl hl 0 rfl rfl (by kernel_rfl) rfl rfl) ?_; refine pr rfl (rd_fieldAddr rfl rfl (fa Tryd.underlying154 az154 rfl)) ?_; refine pk rfl (rl hl 0 rfl rfl (by kernel_rfl) rfl rfl) ?_
    refine rp_callL hl rfl rfl rfl rfl rfl rfl rfl (hcl hl.keep) ?_; rintro v S1 hk1 rfl hl; refine ⟨by repeat (first | exact trivial | refine stays_left ?_ | (refine ⟨by first | exact stays_load rfl rfl (load1_of (by kernel_rfl) (hd.d.at_ hl.keep) rfl) (same_atom (by first | exact atom_int _ _ | exact atom_bool _ | exact atom_slice _ _ _)) rfl | exact stays_load rfl rfl (load1_row (by kernel_rfl) (row_move (hl.since 0 rfl) hrowp) (tk_nth (j := 4) htkp rfl)) (same_atom (atom_slice _ _ _)) rfl | exact stays_load rfl rfl (load1_row (by kernel_rfl) (row_move (hl.since 0 rfl) hrowhhp) (tk_nth (j := 0) htkhhp rfl)) (same_atom (atom_int _ _)) rfl | exact stays_new rfl (hl.get 0 rfl) (sameL_atoms _ _ (by simp) (by repeat (first | exact atoms_nil | refine atoms_cons (atom_int _ _) ?_ | refine atoms_cons (atom_bool _) ?_ | refine atoms_cons (atom_slice _ _ _) ?_ | refine atoms_cons (atom_string _) ?_))) | exact stays_load rfl rfl (load1_of (by kernel_rfl) (hl.get 0 rfl) rfl) (same_atom (by first | exact atom_int _ _ | exact atom_bool _ | exact atom_slice _ _ _)) rfl | exact stays_no (by dsimp only; decide +kernel), ?_⟩)), ?_⟩
    refine pr rfl (rd_bin rfl rfl rfl rfl) ?_; iterate 2 refine pm rfl ?_
    refine rp_bool (d := 40) rfl (fun h40 => ?_) (fun h40 => ?_)
    ·
     iterate 7 refine pz rfl ?_
     refine pm rfl ?_; refine rp_end rfl ?_
     exact ⟨rfl, bl (by unfold susB; rw [h9, heihhp, h28, h40]; rfl), by repeat (first | exact subL_refl _ | refine subL_skip rfl ?_), hl⟩
    ·
     refine pm rfl ?_; refine pr rfl (rd_fieldAddr rfl rfl (fa Tryd.underlying154 az154 rfl)) ?_; refine pk rfl (rl hl 0 rfl rfl (by kernel_rfl) rfl rfl) ?_; refine pr rfl (rd_fieldAddr rfl rfl (fa Tryd.underlying154 az154 rfl)) ?_; refine pk rfl (rl hl 0 rfl rfl (by kernel_rfl) rfl rfl) ?_
     refine rp_callL hl rfl rfl rfl rfl rfl rfl rfl (spec82 bd aV aS cV cS (.slice aK M.length cK) V L hh k (hl.keep.3 hF) (hG.keep hl.keep) (hd.d.keep hl.keep) hhh (by omega) (by omega)) ?_; rintro v S1 hk1 rfl hl; refine ⟨by repeat (first | exact trivial | refine stays_left ?_ | (refine ⟨by first | exact stays_load rfl rfl (load1_of (by kernel_rfl) (hd.d.at_ hl.keep) rfl) (same_atom (by first | exact atom_int _ _ | exact atom_bool _ | exact atom_slice _ _ _)) rfl | exact stays_load rfl rfl (load1_row (by kernel_rfl) (row_move (hl.since 0 rfl) hrowp) (tk_nth (j := 4) htkp rfl)) (same_atom (atom_slice _ _ _)) rfl | exact stays_load rfl rfl (load1_row (by kernel_rfl) (row_move (hl.since 0 rfl) hrowhhp) (tk_nth (j := 0) htkhhp rfl)) (same_atom (atom_int _ _)) rfl | exact stays_new rfl (hl.get 0 rfl) (sameL_atoms _ _ (by simp) (by repeat (first | exact atoms_nil | refine atoms_cons (atom_int _ _) ?_ | refine atoms_cons (atom_bool _) ?_ | refine atoms_cons (atom_slice _ _ _) ?_ | refine atoms_cons (atom_string _) ?_))) | exact stays_load rfl rfl (load1_of (by kernel_rfl) (hl.get 0 rfl) rfl) (same_atom (by first | exact atom_int _ _ | exact atom_bool _ | exact atom_slice _ _ _)) rfl | exact stays_no (by dsimp only; decide +kernel), ?_⟩)), ?_⟩
     refine pr rfl (rd_bin rfl rfl rfl rfl) ?_; refine pm rfl ?_; refine rp_end rfl ?_
     exact ⟨rfl, bl (by unfold susB; rw [h9, heihhp, h28, h40]; rfl), by repeat (first | exact subL_refl _ | refine subL_skip rfl ?_), hl⟩
 intro S1 hl
 refine xp_cond rfl rfl (fun h48 => ?_) (fun h48 => ?_)
 ·
  refine xs (by kernel_rfl) ?_; refine rm rfl ?_; refine re_end rfl ?_; refine xp_ret rfl ?_
  refine thn_ret (done_ret (ress_tmp rfl rfl) ⟨hl.keep, by rw [su_1 h48] <;> rfl⟩)
 ·
  refine xp_skip rfl ?_; refine xp_seq rfl ?_; refine xs (by kernel_rfl) ?_; refine rr rfl (rd_fieldAddr rfl rfl (fa Tryd.underlying154 az154 rfl)) ?_; refine rr rfl (rl hl 0 rfl rfl (by kernel_rfl) rfl rfl) ?_; refine rr rfl (rd_bin rfl rfl rfl (i6 (by omega))) ?_; refine rm rfl ?_; refine re_end rfl ?_; refine xp_block rfl ?_
  -- LOOP
  refine xe_sub (L' := [(5, .int .i64 ((n : Int) + 1)), (4, .bool false), (3, ptrTo B3 0), (0, ptrTo bd 0)]) ⟨rfl, rfl, rfl, rfl, trivial⟩ ?_
  refine xp_loop rfl (fun m Le S' => ∃ q : Nat, n + 1 ≤ q ∧ q ≤ L.length ∧ m = L.length - q ∧ suG L M mv hh i k (L.length - q) q = suG L M mv hh i k (L.length - (n + 1)) (n + 1) ∧ SubE [(5, .int .i64 (q : Int)), (4, .bool false), (3, ptrTo B3 0), (0, ptrTo bd 0)] Le ∧ HoldG S [S] S' [(B3, .cells [.int .i64 (n : Int), .int .i64 (mv : Int), .int .i64 (hh : Int), .int .i64 i, .int .i64 k] 154 false true [])] []) ?_ (m := L.length - (n + 1)) ⟨n + 1, by omega, by omega, rfl, rfl, ⟨rfl, rfl, rfl, rfl, trivial⟩, hl⟩
  clear hl; rintro m Le S' ⟨q, hq1, hq2, rfl, hsq, hsub, hl⟩; refine xe_sub hsub ?_
  refine xp_seq rfl ?_; refine xs (by kernel_rfl) ?_; iterate 2 refine rm rfl ?_
  refine rr rfl (rd_nilCheck rfl rfl rfl) ?_; refine rr rfl (rd_fieldAddr rfl rfl (fa Tryd.underlying118 az118 rfl)) ?_; refine rr rfl (rd_load rfl rfl (load1_of (by kernel_rfl) (hd.d.at_ hl.keep) rfl)) ?_; refine rr rfl (rd_len rfl rfl (len_slice Tryd.underlying88)) ?_; refine rr rfl (rd_bin rfl rfl rfl rfl) ?_; refine re_end rfl ?_; refine xp_cond rfl rfl (fun h58 => ?_) (fun h58 => ?_)
  ·
   have hql : q < L.length := by have := of_decide_eq_true h58; omega
   obtain ⟨sq, hsnq⟩ := nth_some (l := L) (i := q) (by omega)
   obtain ⟨bq, oq, csq, awq, cwq, haq, _, hrowq, htkq, hivq⟩ := hs.sl.elem hsnq
   obtain ⟨hwlq, hwiq⟩ := hs.wf _ sq hsnq
   obtain ⟨ihhq, hihhq⟩ := nth_some (l := sq.ev) (i := hh) (by omega)
   obtain ⟨bhhq, ohhq, cshhq, hahhq, _, hrowhhq, htkhhq⟩ := hivq.elem hihhq
   have heihhq := evI_at hsnq hihhq
   obtain ⟨imvq, himvq⟩ := nth_some (l := sq.ev) (i := mv) (by omega)
   obtain ⟨bmvq, omvq, csmvq, hamvq, _, hrowmvq, htkmvq⟩ := hivq.elem himvq
   have heimvq := evI_at hsnq himvq
   rw [show L.length - q = (L.length - (q + 1)) + 1 by omega] at hsq
   refine xp_skip rfl ?_; refine xp_seq rfl ?_; refine xp_block rfl ?_; refine xp_seq rfl ?_; refine xp_draw (idx := [0, 1, 2, 3, 4, 5, 6, 7, 8, 9, 10, 11, 12, 13, 14, 15]) rfl (by kernel_rfl) (by kernel_rfl) ?_; refine pm rfl ?_; refine pr rfl (rd_nilCheck rfl rfl rfl) ?_; refine pr rfl (rd_fieldAddr rfl rfl (fa Tryd.underlying118 az118 rfl)) ?_; refine pk rfl (rd_load rfl rfl (load1_of (by kernel_rfl) (hd.d.at_ hl.keep) rfl)) ?_; refine pm rfl ?_; refine pr rfl (rd_indexAddr rfl rfl rfl (indexAddr_sl (z := 5) haq Tryd.underlying88 (by kernel_rfl) ⟨by omega, by omega⟩)) ?_
   refine pr rfl (rd_fieldAddr rfl rfl (fa Tryd.underlying131 az131 rfl)) ?_; refine pk rfl (rd_load rfl rfl (load1_row (by kernel_rfl) (row_move (hl.since 0 rfl) hrowq) (tk_nth (j := 4) htkq rfl))) ?_; refine pr rfl (rd_fieldAddr rfl rfl (fa Tryd.underlying154 az154 rfl)) ?_; refine pk rfl (rl hl 0 rfl rfl (by kernel_rfl) rfl rfl) ?_; refine pr rfl (rd_indexAddr rfl rfl rfl (indexAddr_sl (z := 1) hahhq Tryd.underlying22 (by kernel_rfl) ⟨by omega, by omega⟩)) ?_; refine pk rfl (rd_load rfl rfl (load1_row (by kernel_rfl) (row_move (hl.since 0 rfl) hrowhhq) (tk_nth (j := 0) htkhhq rfl))) ?_
   refine pr rfl (rd_fieldAddr rfl rfl (fa Tryd.underlying154 az154 rfl)) ?_; refine pk rfl (rl hl 0 rfl rfl (by kernel_rfl) rfl rfl) ?_; refine pr rfl (rd_bin rfl rfl rfl (i6 (by omega))) ?_; refine pr rfl (rd_bin rfl rfl rfl rfl) ?_; refine rp_end rfl ?_; refine xp_cond rfl rfl (fun h76 => ?_) (fun h76 => ?_)
   ·
    rw [← heihhq] at h76
    rw [suG_1 h76] at hsq
    refine xe_sub (L' := [(5, .int .i64 (q : Int)), (3, ptrTo B3 0), (0, ptrTo bd 0)]) ⟨rfl, rfl, rfl, trivial⟩ ?_; refine xp_seq rfl (xe_toE hl 4 (.bool ((evI L q mv == i) && (clK M q mv hh == 0))) ?_ rfl ?_)
    ·
     refine xp_draw (idx := [0, 1, 2, 3, 4, 5, 6, 7, 8, 9, 10, 11, 12, 13, 14, 15, 16, 17, 18, 19, 20, 21, 22, 23, 24, 25]) rfl (by kernel_rfl) (by kernel_rfl) ?_; refine pm rfl ?_; refine pr rfl (rd_nilCheck rfl rfl rfl) ?_; refine pr rfl (rd_fieldAddr rfl rfl (fa Tryd.underlying118 az118 rfl)) ?_; refine pk rfl (rd_load rfl rfl (load1_of (by kernel_rfl) (hd.d.at_ hl.keep) rfl)) ?_; refine pm rfl ?_; refine pr rfl (rd_indexAddr rfl rfl rfl (indexAddr_sl (z := 5) haq Tryd.underlying88 (by kernel_rfl) ⟨by omega, by omega⟩)) ?_; refine pr rfl (rd_fieldAddr rfl rfl (fa Tryd.underlying131 az131 rfl)) ?_
     refine pk rfl (rd_load rfl rfl (load1_row (by kernel_rfl) (row_move (hl.since 0 rfl) hrowq) (tk_nth (j := 4) htkq rfl))) ?_; refine pr rfl (rd_fieldAddr rfl rfl (fa Tryd.underlying154 az154 rfl)) ?_; refine pk rfl (rl hl 0 rfl rfl (by kernel_rfl) rfl rfl) ?_; refine pr rfl (rd_indexAddr rfl rfl rfl (indexAddr_sl (z := 1) hamvq Tryd.underlying22 (by kernel_rfl) ⟨by omega, by omega⟩)) ?_; refine pk rfl (rd_load rfl rfl (load1_row (by kernel_rfl) (row_move (hl.since 0 rfl) hrowmvq) (tk_nth (j := 0) htkmvq rfl))) ?_; refine pr rfl (rd_fieldAddr rfl rfl (fa Tryd.underlying154 az154 rfl)) ?_
     refine pk rfl (rl hl 0 rfl rfl (by kernel_rfl) rfl rfl) ?_; refine pr rfl (rd_bin rfl rfl rfl rfl) ?_; refine pm rfl ?_; refine rp_bool (d := 92) rfl (fun h92 => ?_) (fun h92 => ?_)
     ·
      iterate 2 refine pm rfl ?_
      refine pr rfl (rd_fieldAddr rfl rfl (fa Tryd.underlying154 az154 rfl)) ?_; refine pk rfl (rl hl 0 rfl rfl (by kernel_rfl) rfl rfl) ?_; refine pr rfl (rd_fieldAddr rfl rfl (fa Tryd.underlying154 az154 rfl)) ?_; refine pk rfl (rl hl 0 rfl rfl (by kernel_rfl) rfl rfl) ?_
      refine rp_callL hl rfl rfl rfl rfl rfl rfl rfl (spec55 bd aV aS aK cV cS cK V L M q mv hh (hd.keep hl.keep) hql) ?_; rintro v S1 hk1 rfl hl; refine ⟨by repeat (first | exact trivial | refine stays_left ?_ | (refine ⟨by first | exact stays_load rfl rfl (load1_of (by kernel_rfl) (hd.d.at_ hl.keep) rfl) (same_atom (by first | exact atom_int _ _ | exact atom_bool _ | exact atom_slice _ _ _)) rfl | exact stays_load rfl rfl (load1_row (by kernel_rfl) (row_move (hl.since 0 rfl) hrowq) (tk_nth (j := 4) htkq rfl)) (same_atom (atom_slice _ _ _)) rfl | exact stays_load rfl rfl (load1_row (by kernel_rfl) (row_move (hl.since 0 rfl) hrowmvq) (tk_nth (j := 0) htkmvq rfl)) (same_atom (atom_int _ _)) rfl | exact stays_new rfl (hl.get 0 rfl) (sameL_atoms _ _ (by simp) (by repeat (first | exact atoms_nil | refine atoms_cons (atom_int _ _) ?_ | refine atoms_cons (atom_bool _) ?_ | refine atoms_cons (atom_slice _ _ _) ?_ | refine atoms_cons (atom_string _) ?_))) | exact stays_load rfl rfl (load1_of (by kernel_rfl) (hl.get 0 rfl) rfl) (same_atom (by first | exact atom_int _ _ | exact atom_bool _ | exact atom_slice _ _ _)) rfl | exact stays_no (by dsimp only; decide +kernel), ?_⟩)), ?_⟩
      refine pr rfl (rd_bin rfl rfl rfl rfl) ?_; iterate 2 refine pm rfl ?_
      refine rp_end rfl ?_
      exact ⟨rfl, bl (by rw [heimvq, h92]; rfl), by repeat (first | exact subL_refl _ | refine subL_skip rfl ?_), hl⟩
     ·
      iterate 8 refine pz rfl ?_
      iterate 2 refine pm rfl ?_
      refine rp_end rfl ?_
      exact ⟨rfl, bl (by rw [heimvq, h92]; rfl), by repeat (first | exact subL_refl _ | refine subL_skip rfl ?_), hl⟩
    intro S1 hl
    refine xp_ret rfl ?_
    refine blk_ret (thn_ret (round_ret (blk_ret (thn_ret (done_ret (ress_tmp rfl rfl) ⟨hl.keep, by rw [su_2 h48, ← hsq] <;> rfl⟩)))))
   ·
    refine xp_skip rfl ?_; refine xg (by kernel_rfl) ?_; refine rm rfl ?_; refine rr rfl (rd_bin rfl rfl rfl (i6 (by omega))) ?_; refine rm rfl ?_; refine re_end rfl ?_
    rw [← heihhq] at h76
    rw [suG_2 h76] at hsq
    exact ⟨L.length - (q + 1), by omega, q + 1, by omega, by omega, rfl, hsq, ⟨rfl, rfl, rfl, rfl, trivial⟩, hl⟩
  ·
   refine xp_exit rfl ?_; refine xs (by kernel_rfl) ?_; refine rm rfl ?_; refine re_end rfl ?_; refine xp_ret rfl ?_
   refine done_ret (ress_tmp rfl rfl) ⟨hl.keep, by rw [su_2 h48, ← hsq, show L.length - q = 0 by have := of_decide_eq_false h58; omega] <;> rfl⟩
end Go.Proofs.YtlnenodplgpceaaDoor
namespace Go.Proofs.YtlnenodplgpceaaDoor
open Go.Cm Go
set_option maxRecDepth 100000
variable {S : St}
def trT (V : List (List Ev)) (L : List Sl) (M : List PD) (n mv hh : Nat) : Int := bif paB V mv (evI L n mv) then 1 else bif tuB V mv (evI L n mv) then 2 else bif suE V L M n mv hh (evI L n mv) (evI L n hh) then 3 else 4
def trE (V : List (List Ev)) (L : List Sl) (M : List PD) (n a b : Nat) : Int := bif stB V L n a == stB V L n b then 4 else bif stB V L n b then trT V L M n b a else trT V L M n a b
def isT (V : List (List Ev)) (L : List Sl) (M : List PD) (n mv hh : Nat) : Nat → Bool
 | 0 => paB V mv (evI L n mv)
 | 1 => tuB V mv (evI L n mv)
 | _ => suE V L M n mv hh (evI L n mv) (evI L n hh)
section
variable {V : List (List Ev)} {L : List Sl} {M : List PD} {n a b mv hh : Nat}
theorem tr_1 (h : (stB V L n a == stB V L n b) = true) : trE V L M n a b = 4 := by unfold trE; rw [h]; rfl
theorem tr_2 (h : (stB V L n a == stB V L n b) = false) (h2 : stB V L n b = true) : trE V L M n a b = trT V L M n b a := by unfold trE; rw [h, h2]; rfl
theorem tr_3 (h : (stB V L n a == stB V L n b) = false) (h2 : stB V L n b = false) : trE V L M n a b = trT V L M n a b := by unfold trE; rw [h, h2]; rfl
theorem tr_st (h : (stB V L n a == stB V L n b) = false) (h2 : stB V L n b = false) : stB V L n a = true := by
 cases h3 : stB V L n a with
 | true => rfl
 | false => rw [h2, h3] at h; cases h
theorem st_pos (h : stB V L n mv = true) : 0 ≤ evI L n mv := by
 unfold stB at h
 rw [Bool.and_eq_true] at h
 exact of_decide_eq_true h.1
theorem trT_at {q : Nat} (hq : q < 3) (h : isT V L M n mv hh q = true) (hf : ∀ j, j < q → isT V L M n mv hh j = false) : trT V L M n mv hh = 1 + (q : Int) := by
 unfold trT
 match q, hq with
 | 0, _ =>
  have h : paB V mv (evI L n mv) = true := h
  rw [h]; rfl
 | 1, _ =>
  have h0 : paB V mv (evI L n mv) = false := hf 0 (by decide)
  have h : tuB V mv (evI L n mv) = true := h
  rw [h0, h]; rfl
 | 2, _ =>
  have h0 : paB V mv (evI L n mv) = false := hf 0 (by decide)
  have h1 : tuB V mv (evI L n mv) = false := hf 1 (by decide)
  have h : suE V L M n mv hh (evI L n mv) (evI L n hh) = true := h
  rw [h0, h1, h]; rfl
theorem trT_no (hf : ∀ j, j < 3 → isT V L M n mv hh j = false) : trT V L M n mv hh = 4 := by
 unfold trT
 have h0 : paB V mv (evI L n mv) = false := hf 0 (by decide)
 have h1 : tuB V mv (evI L n mv) = false := hf 1 (by decide)
 have h2 : suE V L M n mv hh (evI L n mv) (evI L n hh) = false := hf 2 (by decide)
 rw [h0, h1, h2]; rfl
end
def fnI : Nat → Nat
 | 0 => 69
 | 1 => 70
 | _ => 71
theorem is_spec (bd : Nat) (aV aS aK : Option Addr) (cV cS cK : Nat) (V : List (List Ev)) (L : List Sl) (M : List PD) (n mv hh q : Nat) (hF : Fresh S) (hG : Gl S) (hd : KSet S bd aV aS aK cV cS cK V L M) (hnn : n < L.length) (hmv : mv < V.length) (hhh : hh < V.length) (h0 : 0 ≤ evI L n mv) (hil : evI L n mv < lenV V mv) (hkl : evI L n hh ≤ 10000) : CC Tryd.prog KK (fnI q) [ptrTo bd 0, aggL [.int .i64 (n : Int), .int .i64 (mv : Int), .int .i64 (hh : Int), .int .i64 (evI L n mv), .int .i64 (evI L n hh)]] S (fun v S' => Keep S S' ∧ v = .bool (isT V L M n mv hh q)) := by
 match q with
 | 0 => exact spec69 bd aV aS cV cS _ V L _ _ _ _ mv hF hG hd.d hmv h0 hil
 | 1 => exact spec70 bd aV aS cV cS _ V L _ _ _ _ mv hF hG hd.d hmv h0 hil
 | q + 2 => exact spec71 bd aV aS aK cV cS cK V L M n mv hh _ _ hF hG hd hnn hmv hhh (by have := hd.lo n hh; omega) hkl
noncomputable def c56 : Code := Tryd.f56.body.getD .skip
theorem spec56 (bd : Nat) (aV aS aK : Option Addr) (cV cS cK : Nat) (V : List (List Ev)) (L : List Sl) (M : List PD) (n a b : Nat) (hF : Fresh S) (hG : Gl S) (hd : KSet S bd aV aS aK cV cS cK V L M) (hnn : n < L.length) (hav : a < V.length) (hbv : b < V.length) : CC Tryd.prog KK 56 [ptrTo bd 0, .int .i64 (n : Int), .int .i64 (a : Int), .int .i64 (b : Int)] S (fun v S' => Keep S S' ∧ v = .int .i64 (trE V L M n a b)) := by
 refine cc_enter (c := c56) (n := 68) Tryd.func56 rfl rfl rfl (by kernel_rfl) rfl rfl ?_
 have hl := Hold.start S
 have hs := hd.d.set
 have hLL := hs.hL
 refine xs (by kernel_rfl) ?_; refine rm rfl ?_; refine re_end rfl ?_; refine xs (by kernel_rfl) ?_; iterate 3 refine rm rfl ?_
 refine re_callL hl rfl rfl rfl rfl rfl rfl rfl (spec68 bd aV aS cV cS (.slice aK M.length cK) V L n a (hd.d.keep hl.keep) hav hnn) ?_; rintro v S1 hk1 rfl hl
 iterate 3 refine rm rfl ?_
 refine re_callL hl rfl rfl rfl rfl rfl rfl rfl (spec68 bd aV aS cV cS (.slice aK M.length cK) V L n b (hd.d.keep hl.keep) hbv hnn) ?_; rintro v S1 hk1 rfl hl
 iterate 2 refine rm rfl ?_
 refine re_end rfl ?_; refine xp_seq rfl ?_; refine xs (by kernel_rfl) ?_; iterate 2 refine rm rfl ?_
 refine rr rfl (rd_bin rfl rfl rfl rfl) ?_; refine re_end rfl ?_; refine xp_cond rfl rfl (fun h24 => ?_) (fun h24 => ?_)
 ·
  refine xs (by kernel_rfl) ?_; refine rm rfl ?_; refine re_end rfl ?_; refine xp_ret rfl ?_
  refine thn_ret (done_ret (ress_tmp rfl rfl) ⟨hl.keep, by rw [tr_1 h24] <;> rfl⟩)
 ·
  refine xp_skip rfl ?_; refine xp_seq rfl (xe_cut (fun Le S' => ∃ mv hh : Nat, mv < V.length ∧ hh < V.length ∧ stB V L n mv = true ∧ trE V L M n a b = trT V L M n mv hh ∧ SubE [(0, ptrTo bd 0), (8, .int .i64 0), (1, .int .i64 (n : Int)), (2, .int .i64 (mv : Int)), (3, .int .i64 (hh : Int))] Le ∧ HoldG S [S] S' [] []) ?_ ?_)
  ·
   refine xs (by kernel_rfl) ?_; refine rm rfl ?_; refine re_end rfl ?_; refine xp_cond rfl rfl (fun h25 => ?_) (fun h25 => ?_)
   ·
    refine xg (by kernel_rfl) ?_; iterate 4 refine rm rfl ?_
    refine re_end rfl ?_
    exact ⟨rfl, b, a, hbv, hav, h25, tr_2 h24 h25, ⟨rfl, rfl, rfl, rfl, rfl, trivial⟩, hl⟩
   ·
    refine xp_skip rfl ?_
    exact ⟨rfl, a, b, hav, hbv, tr_st h24 h25, tr_3 h24 h25, ⟨rfl, rfl, rfl, rfl, rfl, trivial⟩, hl⟩
  clear hl; rintro Le3 S1 ⟨mv, hh, hmv, hhh, hst, htr, hsub3, hl⟩; refine xe_sub hsub3 ?_
  have h0 := st_pos hst
  obtain ⟨sq, hsnq⟩ := nth_some (l := L) (i := n) (by omega)
  obtain ⟨bq, oq, csq, awq, cwq, haq, _, hrowq, htkq, hivq⟩ := hs.sl.elem hsnq
  obtain ⟨hwlq, hwiq⟩ := hs.wf _ sq hsnq
  obtain ⟨imvq, himvq⟩ := nth_some (l := sq.ev) (i := mv) (by omega)
  obtain ⟨bmvq, omvq, csmvq, hamvq, _, hrowmvq, htkmvq⟩ := hivq.elem himvq
  have heimvq := evI_at hsnq himvq
  obtain ⟨ihhq, hihhq⟩ := nth_some (l := sq.ev) (i := hh) (by omega)
  obtain ⟨bhhq, ohhq, cshhq, hahhq, _, hrowhhq, htkhhq⟩ := hivq.elem hihhq
  have heihhq := evI_at hsnq hihhq
  obtain ⟨xm, hxm⟩ := nth_some hmv
  obtain ⟨xh, hxh⟩ := nth_some hhh
  have hil := hwiq mv imvq xm himvq hxm
  have hkl := hwiq hh ihhq xh hihhq hxh
  have hxl := hs.hV xh (nth_mem hxh)
  rw [← lenV_at hxm] at hil
  subst heimvq
  subst heihhq
  refine xp_seq rfl ?_; refine xp_draw (idx := [0, 1, 2, 3, 4, 5, 6, 7, 8, 9, 10, 11, 12, 13, 14, 15, 16, 17, 18, 19, 20, 21, 22, 23, 24, 25, 26, 27]) rfl (by kernel_rfl) (by kernel_rfl) ?_; iterate 4 refine pm rfl ?_
  refine pr rfl (rd_nilCheck rfl rfl rfl) ?_; refine pr rfl (rd_fieldAddr rfl rfl (fa Tryd.underlying118 az118 rfl)) ?_; refine pk rfl (rd_load rfl rfl (load1_of (by kernel_rfl) (hd.d.at_ hl.keep) rfl)) ?_; refine pm rfl ?_; refine pr rfl (rd_indexAddr rfl rfl rfl (indexAddr_sl (z := 5) haq Tryd.underlying88 (by kernel_rfl) ⟨by omega, by omega⟩)) ?_; refine pr rfl (rd_fieldAddr rfl rfl (fa Tryd.underlying131 az131 rfl)) ?_; refine pk rfl (rd_load rfl rfl (load1_row (by kernel_rfl) (row_move (hl.since 0 rfl) hrowq) (tk_nth (j := 4) htkq rfl))) ?_; refine pm rfl ?_
  refine pr rfl (rd_indexAddr rfl rfl rfl (indexAddr_sl (z := 1) hamvq Tryd.underlying22 (by kernel_rfl) ⟨by omega, by omega⟩)) ?_; refine pk rfl (rd_load rfl rfl (load1_row (by kernel_rfl) (row_move (hl.since 0 rfl) hrowmvq) (tk_nth (j := 0) htkmvq rfl))) ?_; refine pm rfl ?_; refine pr rfl (rd_nilCheck rfl rfl rfl) ?_; refine pr rfl (rd_fieldAddr rfl rfl (fa Tryd.underlying118 az118 rfl)) ?_; refine pk rfl (rd_load rfl rfl (load1_of (by kernel_rfl) (hd.d.at_ hl.keep) rfl)) ?_; refine pm rfl ?_
  refine pr rfl (rd_indexAddr rfl rfl rfl (indexAddr_sl (z := 5) haq Tryd.underlying88 (by kernel_rfl) ⟨by omega, by omega⟩)) ?_; refine pr rfl (rd_fieldAddr rfl rfl (fa Tryd.underlying131 az131 rfl)) ?_; refine pk rfl (rd_load rfl rfl (load1_row (by kernel_rfl) (row_move (hl.since 0 rfl) hrowq) (tk_nth (j := 4) htkq rfl))) ?_; refine pm rfl ?_; refine pr rfl (rd_indexAddr rfl rfl rfl (indexAddr_sl (z := 1) hahhq Tryd.underlying22 (by kernel_rfl) ⟨by omega, by omega⟩)) ?_
  refine pk rfl (rd_load rfl rfl (load1_row (by kernel_rfl) (row_move (hl.since 0 rfl) hrowhhq) (tk_nth (j := 0) htkhhq rfl))) ?_; refine pr rfl (rd_build rfl rfl (v := aggL [.int .i64 (n : Int), .int .i64 (mv : Int), .int .i64 (hh : Int), .int .i64 (evI L n mv), .int .i64 (evI L n hh)]) (by rfl)) ?_; refine rp_allocL hF hl rfl rfl rfl rfl rfl (z := [.int .i64 0, .int .i64 0, .int .i64 0, .int .i64 0, .int .i64 0]) (by kernel_rfl) ?_; intro B11 S11 hl
  refine rp_storeL hl 0 rfl rfl rfl rfl rfl rfl rfl (by kernel_rfl) rfl ?_; intro S1 hl; refine ⟨stays_all (by kernel_rfl), ?_⟩
  refine rp_end rfl ?_; refine xp_seq rfl ?_; refine xs (by kernel_rfl) ?_; refine re_buildSliceR hl rfl rfl rfl rfl rfl Tryd.underlying157 rfl (c := [.func (.func 69) #[] #[], .func (.func 70) #[] #[], .func (.func 71) #[] #[]]) (by kernel_rfl) ?_; intro B54 Sr hr54 hl
  have hl := hl.mark
  refine rr rfl (rd_len rfl rfl (len_slice Tryd.underlying157)) ?_; refine rm rfl ?_; refine re_end rfl ?_; refine xp_block rfl ?_
  -- LOOP
  refine xe_sub (L' := [(56, .int .i64 0), (55, .int .i64 3), (54, .slice (some ⟨B54, 0, none⟩) 3 3), (11, ptrTo B11 0), (8, .int .i64 0), (0, ptrTo bd 0)]) ⟨rfl, rfl, rfl, rfl, rfl, rfl, trivial⟩ ?_
  refine xp_loop rfl (fun m Le S' => ∃ q : Nat, q ≤ 3 ∧ m = 3 - q ∧ (∀ j, j < q → isT V L M n mv hh j = false) ∧ SubE [(56, .int .i64 (q : Int)), (55, .int .i64 3), (54, .slice (some ⟨B54, 0, none⟩) 3 3), (11, ptrTo B11 0), (8, .int .i64 0), (0, ptrTo bd 0)] Le ∧ HoldG S [Sr, S] S' [(B11, .cells [.int .i64 (n : Int), .int .i64 (mv : Int), .int .i64 (hh : Int), .int .i64 (evI L n mv), .int .i64 (evI L n hh)] 154 false true [])] []) ?_ (m := 3) ⟨0, by omega, rfl, fun j hj => absurd hj (Nat.not_lt_zero j), ⟨rfl, rfl, rfl, rfl, rfl, rfl, trivial⟩, hl⟩
  clear hl; rintro m Le S' ⟨q, hq, rfl, hf, hsub, hl⟩; refine xe_sub hsub ?_
  refine xs (by kernel_rfl) ?_; refine rr rfl (rd_bin rfl rfl rfl rfl) ?_; refine re_end rfl ?_; refine xp_seq rfl ?_; refine xp_cond rfl rfl (fun h57 => ?_) (fun h57 => ?_)
  ·
   have hq3 : q < 3 := by have := of_decide_eq_true h57; omega
   have hfq : nth ([.func (.func 69) #[] #[], .func (.func 70) #[] #[], .func (.func 71) #[] #[]] : List Value) (0 + ((q : Nat) : Int).toNat * 1) = some (.func (.func (fnI q)) #[] #[]) := by
    match q, hq3 with
    | 0, _ => rfl
    | 1, _ => rfl
    | 2, _ => rfl
   refine xp_skip rfl ?_; refine xp_seq rfl ?_; refine xp_block rfl ?_; refine xs (by kernel_rfl) ?_; refine rm rfl ?_; refine rr rfl (rd_indexAddr rfl rfl rfl (indexAddr_slice (z := 1) Tryd.underlying157 (by kernel_rfl) ⟨by omega, by omega⟩)) ?_; refine rr rfl (rd_load rfl rfl (load1_row (by kernel_rfl) (row_move (hl.since 0 rfl) hr54) hfq)) ?_; iterate 2 refine rm rfl ?_
   refine re_end rfl ?_; refine xs (by kernel_rfl) ?_; iterate 2 refine rm rfl ?_
   refine rr rfl (rd_load rfl rfl (loadN_of (z := 5) (by kernel_rfl) (by kernel_rfl) (hl.get 0 rfl) rfl)) ?_
   refine re_callL hl rfl rfl rfl rfl rfl rfl rfl (is_spec bd aV aS aK cV cS cK V L M n mv hh q (hl.keep.3 hF) (hG.keep hl.keep) (hd.keep hl.keep) hnn hmv hhh h0 hil (by omega)) ?_; rintro v S1 hk1 rfl hl
   refine re_end rfl ?_; refine xp_cond rfl rfl (fun h64 => ?_) (fun h64 => ?_)
   ·
    refine xs (by kernel_rfl) ?_; refine rm rfl ?_; refine rr rfl (rd_bin rfl rfl rfl (i6 (by omega))) ?_; refine rm rfl ?_; refine re_end rfl ?_; refine xp_ret rfl ?_
    refine blk_ret (thn_ret (round_ret (blk_ret (thn_ret (done_ret (ress_tmp rfl rfl) ⟨hl.keep, by rw [htr, trT_at hq3 h64 hf] <;> rfl⟩)))))
   ·
    refine xp_skip rfl ?_; refine xg (by kernel_rfl) ?_; refine rr rfl (rd_bin rfl rfl rfl (i6 (by omega))) ?_; refine rm rfl ?_; refine re_end rfl ?_
    exact ⟨3 - (q + 1), by omega, q + 1, by omega, rfl, fun j hj => (Nat.lt_succ_iff_lt_or_eq.1 hj).elim (hf j) (fun e => by rw [e]; exact h64), ⟨rfl, rfl, rfl, rfl, rfl, rfl, trivial⟩, hl⟩
  ·
   refine xp_exit rfl ?_; refine xs (by kernel_rfl) ?_; refine rm rfl ?_; refine re_end rfl ?_; refine xp_ret rfl ?_
   refine done_ret (ress_tmp rfl rfl) ⟨hl.keep, by rw [htr, trT_no (fun j hj => hf j (by have := of_decide_eq_false h57; omega))] <;> rfl⟩
end Go.Proofs.YtlnenodplgpceaaDoor
namespace Go.Proofs.YtlnenodplgpceaaDoor
open Go.Cm Go
set_option maxRecDepth 100000
variable {S : St}
abbrev Mt4 := Int × Int × Int × Int
def kc4 (p : Mt4) : Value := aggL [.int .i64 p.1, .int .i64 p.2.1, .int .i64 p.2.2.1, .int .i64 p.2.2.2]
theorem kc4_eq (a b : Mt4) : eqV Tryd.prog eqDepth 133 (kc4 a) (kc4 b) = some (decide (a = b)) := by
 have h : eqV Tryd.prog 40 133 (aggL [.int .i64 a.1, .int .i64 a.2.1, .int .i64 a.2.2.1, .int .i64 a.2.2.2]) (aggL [.int .i64 b.1, .int .i64 b.2.1, .int .i64 b.2.2.1, .int .i64 b.2.2.2]) = _ :=
  eq_struct Tryd.underlying133 (by kernel_rfl) (eqFields_cons (by kernel_rfl) (part1 (by kernel_rfl) rfl) (part1 (by kernel_rfl) rfl) (eq_int Tryd.underlying3) (eqFields_cons (by kernel_rfl) (part1 (by kernel_rfl) rfl) (part1 (by kernel_rfl) rfl) (eq_int Tryd.underlying3) (eqFields_cons (by kernel_rfl) (part1 (by kernel_rfl) rfl) (part1 (by kernel_rfl) rfl) (eq_int Tryd.underlying3) (eqFields_cons (by kernel_rfl) (part1 (by kernel_rfl) rfl) (part1 (by kernel_rfl) rfl) (eq_int Tryd.underlying3) rfl))))
 refine h.trans (congrArg some ?_)
 obtain ⟨a1, a2, a3, a4⟩ := a
 obtain ⟨b1, b2, b3, b4⟩ := b
 rw [Bool.eq_iff_iff]
 simp
theorem kc4_ok (p : Mt4) : keyOk Tryd.prog 20 133 (kc4 p) = true := by
 show keyOk Tryd.prog (19 + 1) 133 (aggL [.int .i64 p.1, .int .i64 p.2.1, .int .i64 p.2.2.1, .int .i64 p.2.2.2]) = true
 kernel_rfl
theorem kc4_pl (p : Mt4) : plainKey 20 (kc4 p) = true := rfl
theorem kc4_sm (p : Mt4) : sameV 1000 (kc4 p) (kc4 p) = true := by
 show sameV (999 + 1) (.agg _) (.agg _) = true
 unfold sameV
 exact sameL_atoms _ 999 (by decide : 4 < 999) (atoms_cons (atom_int _ _) (atoms_cons (atom_int _ _) (atoms_cons (atom_int _ _) (atoms_cons (atom_int _ _) atoms_nil))))
structure Ds where
 n : Int
 a : Int
 b : Int
 k : Int
 t : Int
def Ds.cells (x : Ds) : List Value := [.int .i64 x.n, .int .i64 x.a, .int .i64 x.b, .int .i64 x.k, .int .i64 x.t]
abbrev MD := List (Mt4 × Int)
def keyE (L : List Sl) (n a b : Nat) : Mt4 := ((a : Int), evI L n a, (b : Int), evI L n b)
def skB (L : List Sl) (M : List PD) (n a b : Nat) (D : MD) : Bool := (clK M n a b == 0) || decide (lkI D (keyE L n a b) > 0)
def alS (V : List (List Ev)) (L : List Sl) (M : List PD) (n a b : Nat) (q : MD × List Ds) : MD × List Ds := bif skB L M n a b q.1 then q else (putI q.1 (keyE L n a b) ((n : Int) + 1), q.2 ++ [⟨n, a, b, clK M n a b, trE V L M n a b⟩])
def alB (V : List (List Ev)) (L : List Sl) (M : List PD) (n a : Nat) : Nat → Nat → MD × List Ds → MD × List Ds
 | 0, _, q => q
 | f + 1, b, q => alB V L M n a f (b + 1) (alS V L M n a b q)
def alA (V : List (List Ev)) (L : List Sl) (M : List PD) (n : Nat) : Nat → Nat → MD × List Ds → MD × List Ds
 | 0, _, q => q
 | f + 1, a, q => alA V L M n f (a + 1) (alB V L M n a (V.length - (a + 1)) (a + 1) q)
def alL (V : List (List Ev)) (L : List Sl) (M : List PD) : Nat → Nat → MD × List Ds → MD × List Ds
 | 0, _, q => q
 | f + 1, n, q => alL V L M f (n + 1) (alA V L M n V.length 0 q)
def dsE (V : List (List Ev)) (L : List Sl) (M : List PD) : List Ds := (alL V L M L.length 0 ([], [])).2
section
variable {V : List (List Ev)} {L : List Sl} {M : List PD} {n a b : Nat}
theorem alS_1 {D : MD} {O : List Ds} (h : skB L M n a b D = true) : alS V L M n a b (D, O) = (D, O) := by unfold alS; rw [h]; rfl
theorem alS_2 {D : MD} {O : List Ds} (h : skB L M n a b D = false) : alS V L M n a b (D, O) = (putI D (keyE L n a b) ((n : Int) + 1), O ++ [⟨n, a, b, clK M n a b, trE V L M n a b⟩]) := by unfold alS; rw [h]; rfl
theorem ds_end {S S' : St} {D : MD} {O : List Ds} {ao : Option Addr} {q : Nat} (hp : alL V L M (L.length - q) q (D, O) = alL V L M L.length 0 ([], [])) (h : L.length ≤ q) (hg : Grow S S' (gOf 72 5 Ds.cells (.slice ao O.length O.length) O)) : ∃ av, (tupV [.slice ao O.length O.length] : Value) = .slice av (dsE V L M).length (dsE V L M).length ∧ Grow S S' (gOf 72 5 Ds.cells (.slice av (dsE V L M).length (dsE V L M).length) (dsE V L M)) := by
 rw [show L.length - q = 0 by omega] at hp
 have e : dsE V L M = O := by unfold dsE; rw [← hp]; rfl
 rw [e]
 exact ⟨ao, rfl, hg⟩
end
noncomputable def c40 : Code := Tryd.f40.body.getD .skip
theorem spec40 (bd : Nat) (aV aS aK : Option Addr) (cV cS cK : Nat) (V : List (List Ev)) (L : List Sl) (M : List PD)  (hF : Fresh S) (hG : Gl S) (hd : KSet S bd aV aS aK cV cS cK V L M) : CC Tryd.prog KK 40 [ptrTo bd 0] S (fun v S' => Keep S S' ∧ ∃ av, v = .slice av (dsE V L M).length (dsE V L M).length ∧ Grow S S' (gOf 72 5 Ds.cells (.slice av (dsE V L M).length (dsE V L M).length) (dsE V L M))) := by
 refine cc_enter (c := c40) (n := 84) Tryd.func40 rfl rfl rfl (by kernel_rfl) rfl rfl ?_
 have hl := Hold.start S
 have hs := hd.d.set
 have hLL := hs.hL
 have hVn := hs.hn
 refine xs (by kernel_rfl) ?_; refine rm rfl ?_; refine re_end rfl ?_; refine xs (by kernel_rfl) ?_; refine re_makeMapL hl kc4 rfl rfl rfl rfl rfl ?_; intro B11 S11 hl; refine rm rfl ?_; refine re_end rfl ?_; refine xs (by kernel_rfl) ?_; refine rm rfl ?_; refine re_end rfl ?_; refine xp_seq rfl ?_; refine xs (by kernel_rfl) ?_; refine rm rfl ?_; refine rr rfl (rd_nilCheck rfl rfl rfl) ?_; refine rr rfl (rd_fieldAddr rfl rfl (fa Tryd.underlying118 az118 rfl)) ?_; refine rr rfl (rd_load rfl rfl (load1_of (by kernel_rfl) (hd.d.at_ hl.keep) rfl)) ?_
 refine rr rfl (rd_len rfl rfl (len_slice Tryd.underlying88)) ?_; refine rm rfl ?_; refine re_end rfl ?_; refine xp_block rfl ?_
 -- LOOP
 have hl := hl.addG (g := gOf 72 5 Ds.cells (.slice none 0 0) ([] : List Ds)) (.inl ⟨rfl, rfl, rfl⟩)
 refine xe_sub (L' := [(17, .int .i64 0), (16, .int .i64 (L.length : Int)), (15, .slice aS L.length cS), (4, .slice none ([] : List Ds).length ([] : List Ds).length), (3, .map (some B11)), (2, .slice none 0 0), (0, ptrTo bd 0)]) ⟨rfl, rfl, rfl, rfl, rfl, rfl, rfl, trivial⟩ ?_
 refine xp_loop rfl (fun m Le S' => ∃ (n : Nat) (D : MD) (O : List Ds) (ao : Option Addr), n ≤ L.length ∧ m = L.length - n ∧ O.length ≤ 64 * n ∧ alL V L M (L.length - n) n (D, O) = alL V L M L.length 0 ([], []) ∧ SubE [(17, .int .i64 (n : Int)), (16, .int .i64 (L.length : Int)), (15, .slice aS L.length cS), (4, .slice ao O.length O.length), (3, .map (some B11)), (2, .slice none 0 0), (0, ptrTo bd 0)] Le ∧ HoldG S [S] S' [(B11, mapB kc4 (kD D))] [gOf 72 5 Ds.cells (.slice ao O.length O.length) O]) ?_ (m := L.length) ⟨0, [], [], none, by omega, rfl, by simp, rfl, ⟨rfl, rfl, rfl, rfl, rfl, rfl, rfl, trivial⟩, hl⟩
 clear hl; rintro m Le S' ⟨n, D0, O0, ao0, hn, rfl, hO0, hp0, hsub, hl⟩; refine xe_sub hsub ?_
 refine xs (by kernel_rfl) ?_; refine rr rfl (rd_bin rfl rfl rfl rfl) ?_; refine re_end rfl ?_; refine xp_seq rfl ?_; refine xp_cond rfl rfl (fun h18 => ?_) (fun h18 => ?_)
 ·
  have hnn : n < L.length := by have := of_decide_eq_true h18; omega
  obtain ⟨sq, hsnq⟩ := nth_some hnn
  obtain ⟨bq, oq, csq, awq, cwq, haq, _, hrowq, htkq, hivq⟩ := hs.sl.elem hsnq
  obtain ⟨hwlq, hwiq⟩ := hs.wf n sq hsnq
  rw [show L.length - n = (L.length - (n + 1)) + 1 by omega] at hp0
  refine xp_skip rfl ?_; refine xp_seq rfl ?_; refine xp_block rfl ?_; refine xs (by kernel_rfl) ?_; refine rm rfl ?_; refine rr rfl (rd_indexAddr rfl rfl rfl (indexAddr_sl (z := 5) haq Tryd.underlying88 (by kernel_rfl) ⟨by omega, by omega⟩)) ?_; refine rr rfl (rd_load rfl rfl (loadN_row (z := 5) (by kernel_rfl) (by kernel_rfl) (row_move (hl.since 0 rfl) hrowq) htkq)) ?_; refine re_allocL hl rfl rfl rfl rfl rfl (z := [.int .i64 0, .int .i64 0, .int .i64 0, .int .i64 0, .slice none 0 0]) (by kernel_rfl) ?_; intro B6 S6 hl; refine rm rfl ?_
  refine re_storeL hl 0 rfl rfl rfl rfl rfl rfl rfl (by kernel_rfl) rfl ?_; intro S1 hl; refine re_end rfl ?_; refine xs (by kernel_rfl) ?_; refine rr rfl (rd_fieldAddr rfl rfl (fa Tryd.underlying131 az131 rfl)) ?_; refine rr rfl (rl hl 0 rfl rfl (by kernel_rfl) rfl rfl) ?_; refine rr rfl (rd_len rfl rfl (len_slice Tryd.underlying22)) ?_; refine rm rfl ?_; refine re_end rfl ?_; refine xp_block rfl ?_
  -- LOOP
  refine xe_sub (L' := [(25, .int .i64 0), (24, .int .i64 (sq.ev.length : Int)), (23, .slice awq sq.ev.length cwq), (5, .int .i64 (n : Int)), (6, ptrTo B6 0), (17, .int .i64 (n : Int)), (16, .int .i64 (L.length : Int)), (15, .slice aS L.length cS), (4, .slice ao0 O0.length O0.length), (3, .map (some B11)), (2, .slice none 0 0), (0, ptrTo bd 0)]) ⟨rfl, rfl, rfl, rfl, rfl, rfl, rfl, rfl, rfl, rfl, rfl, rfl, trivial⟩ ?_
  refine xp_loop rfl (fun m Le S' => ∃ (a : Nat) (D : MD) (O : List Ds) (ao : Option Addr), a ≤ V.length ∧ m = V.length - a ∧ O.length ≤ 64 * n + 8 * a ∧ alA V L M n (V.length - a) a (D, O) = alA V L M n V.length 0 (D0, O0) ∧ SubE [(25, .int .i64 (a : Int)), (24, .int .i64 (sq.ev.length : Int)), (23, .slice awq sq.ev.length cwq), (5, .int .i64 (n : Int)), (6, ptrTo B6 0), (17, .int .i64 (n : Int)), (16, .int .i64 (L.length : Int)), (15, .slice aS L.length cS), (4, .slice ao O.length O.length), (3, .map (some B11)), (2, .slice none 0 0), (0, ptrTo bd 0)] Le ∧ HoldG S [S] S' [(B6, .cells [.int .i64 sq.at_.n, .int .i64 sq.at_.d, .int .i64 sq.dur.n, .int .i64 sq.dur.d, .slice awq sq.ev.length cwq] 131 false true []), (B11, mapB kc4 (kD D))] [gOf 72 5 Ds.cells (.slice ao O.length O.length) O]) ?_ (m := V.length) ⟨0, D0, O0, ao0, by omega, rfl, by omega, rfl, ⟨rfl, rfl, rfl, rfl, rfl, rfl, rfl, rfl, rfl, rfl, rfl, rfl, trivial⟩, hl⟩
  clear hl; rintro m Le S' ⟨a, D1, O1, ao1, han, rfl, hO1, hp1, hsub2, hl⟩; refine xe_sub hsub2 ?_
  refine xs (by kernel_rfl) ?_; refine rr rfl (rd_bin rfl rfl rfl rfl) ?_; refine re_end rfl ?_; refine xp_seq rfl ?_; refine xp_cond rfl rfl (fun h26 => ?_) (fun h26 => ?_)
  ·
   have hav : a < V.length := by have := of_decide_eq_true h26; omega
   obtain ⟨iaq, hiaq⟩ := nth_some (l := sq.ev) (i := a) (by omega)
   obtain ⟨baq, oaq, csaq, haaq, _, hrowaq, htkaq⟩ := hivq.elem hiaq
   have heia := evI_at hsnq hiaq
   rw [show V.length - a = (V.length - (a + 1)) + 1 by omega] at hp1
   refine xp_skip rfl ?_; refine xp_seq rfl ?_; refine xp_block rfl ?_; refine xs (by kernel_rfl) ?_; refine rm rfl ?_; refine rr rfl (rd_indexAddr rfl rfl rfl (indexAddr_sl (z := 1) haaq Tryd.underlying22 (by kernel_rfl) ⟨by omega, by omega⟩)) ?_; refine rr rfl (rd_load rfl rfl (load1_row (by kernel_rfl) (row_move (hl.since 0 rfl) hrowaq) (tk_nth (j := 0) htkaq rfl))) ?_; iterate 2 refine rm rfl ?_
   refine re_end rfl ?_; refine xs (by kernel_rfl) ?_; refine rm rfl ?_; refine rr rfl (rd_bin rfl rfl rfl (i6 (by omega))) ?_; refine rm rfl ?_; refine re_end rfl ?_; refine xp_block rfl ?_
   -- LOOP
   refine xe_sub (L' := [(9, .int .i64 ((a : Int) + 1)), (8, .int .i64 iaq), (7, .int .i64 (a : Int)), (25, .int .i64 (a : Int)), (24, .int .i64 (sq.ev.length : Int)), (23, .slice awq sq.ev.length cwq), (5, .int .i64 (n : Int)), (6, ptrTo B6 0), (17, .int .i64 (n : Int)), (16, .int .i64 (L.length : Int)), (15, .slice aS L.length cS), (4, .slice ao1 O1.length O1.length), (3, .map (some B11)), (2, .slice none 0 0), (0, ptrTo bd 0)]) ⟨rfl, rfl, rfl, rfl, rfl, rfl, rfl, rfl, rfl, rfl, rfl, rfl, rfl, rfl, rfl, trivial⟩ ?_
   refine xp_loop rfl (fun m Le S' => ∃ (b : Nat) (D : MD) (O : List Ds) (ao : Option Addr), a + 1 ≤ b ∧ b ≤ V.length ∧ m = V.length - b ∧ O.length ≤ 64 * n + 8 * a + b ∧ alB V L M n a (V.length - b) b (D, O) = alB V L M n a (V.length - (a + 1)) (a + 1) (D1, O1) ∧ SubE [(9, .int .i64 (b : Int)), (8, .int .i64 iaq), (7, .int .i64 (a : Int)), (25, .int .i64 (a : Int)), (24, .int .i64 (sq.ev.length : Int)), (23, .slice awq sq.ev.length cwq), (5, .int .i64 (n : Int)), (6, ptrTo B6 0), (17, .int .i64 (n : Int)), (16, .int .i64 (L.length : Int)), (15, .slice aS L.length cS), (4, .slice ao O.length O.length), (3, .map (some B11)), (2, .slice none 0 0), (0, ptrTo bd 0)] Le ∧ HoldG S [S] S' [(B6, .cells [.int .i64 sq.at_.n, .int .i64 sq.at_.d, .int .i64 sq.dur.n, .int .i64 sq.dur.d, .slice awq sq.ev.length cwq] 131 false true []), (B11, mapB kc4 (kD D))] [gOf 72 5 Ds.cells (.slice ao O.length O.length) O]) ?_ (m := V.length - (a + 1)) ⟨a + 1, D1, O1, ao1, by omega, by omega, rfl, by omega, rfl, ⟨rfl, rfl, rfl, rfl, rfl, rfl, rfl, rfl, rfl, rfl, rfl, rfl, rfl, rfl, rfl, trivial⟩, hl⟩
   clear hl; rintro m Le S' ⟨b, D, O, ao, hab, hbn, rfl, hO, hp, hsub3, hl⟩; refine xe_sub hsub3 ?_
   refine xp_seq rfl ?_; refine xs (by kernel_rfl) ?_; refine rm rfl ?_; refine rr rfl (rd_fieldAddr rfl rfl (fa Tryd.underlying131 az131 rfl)) ?_; refine rr rfl (rl hl 0 rfl rfl (by kernel_rfl) rfl rfl) ?_; refine rr rfl (rd_len rfl rfl (len_slice Tryd.underlying22)) ?_; refine rr rfl (rd_bin rfl rfl rfl rfl) ?_; refine re_end rfl ?_; refine xp_cond rfl rfl (fun h36 => ?_) (fun h36 => ?_)
   ·
    have hbv : b < V.length := by have := of_decide_eq_true h36; omega
    obtain ⟨ibq, hibq⟩ := nth_some (l := sq.ev) (i := b) (by omega)
    obtain ⟨bbq, obq, csbq, habq, _, hrowbq, htkbq⟩ := hivq.elem hibq
    have heib := evI_at hsnq hibq
    have hke : keyE L n a b = ((a : Int), iaq, (b : Int), ibq) := by unfold keyE; rw [heia, heib]
    rw [show V.length - b = (V.length - (b + 1)) + 1 by omega] at hp
    refine xp_skip rfl ?_; refine xp_seq rfl ?_; refine xp_block rfl ?_; refine xs (by kernel_rfl) ?_; iterate 3 refine rm rfl ?_
    refine rr rfl (rd_fieldAddr rfl rfl (fa Tryd.underlying131 az131 rfl)) ?_; refine rr rfl (rl hl 0 rfl rfl (by kernel_rfl) rfl rfl) ?_; refine rm rfl ?_; refine rr rfl (rd_indexAddr rfl rfl rfl (indexAddr_sl (z := 1) habq Tryd.underlying22 (by kernel_rfl) ⟨by omega, by omega⟩)) ?_; refine rr rfl (rd_load rfl rfl (load1_row (by kernel_rfl) (row_move (hl.since 0 rfl) hrowbq) (tk_nth (j := 0) htkbq rfl))) ?_; refine rr rfl (rd_build rfl rfl (v := aggL [.int .i64 (a : Int), .int .i64 iaq, .int .i64 (b : Int), .int .i64 ibq]) (by rfl)) ?_
    refine re_allocL hl rfl rfl rfl rfl rfl (z := [.int .i64 0, .int .i64 0, .int .i64 0, .int .i64 0]) (by kernel_rfl) ?_; intro B10 S10 hl; refine re_storeL hl 0 rfl rfl rfl rfl rfl rfl rfl (by kernel_rfl) rfl ?_; intro S1 hl; refine re_end rfl ?_; refine xp_seq rfl ?_; refine xp_seq rfl (xe_toE hl 59 (.bool (skB L M n a b D)) ?_ rfl ?_)
    ·
     refine xg (by kernel_rfl) ?_; iterate 4 refine rm rfl ?_
     refine re_callL hl rfl rfl rfl rfl rfl rfl rfl (spec55 bd aV aS aK cV cS cK V L M n a b (hd.keep hl.keep) hnn) ?_; rintro v S1 hk1 rfl hl
     refine rr rfl (rd_bin rfl rfl rfl rfl) ?_; refine rm rfl ?_; refine re_bool (d := 54) rfl (fun h54 => ?_) (fun h54 => ?_)
     ·
      iterate 4 refine rz rfl ?_
      refine rm rfl ?_; refine re_end rfl ?_
      exact ⟨rfl, bl (by unfold skB; rw [hke, h54]; rfl), by repeat (first | exact subL_refl _ | refine subL_skip rfl ?_), hl⟩
     ·
      refine rm rfl ?_; refine rr rfl (rd_load rfl rfl (loadN_of (z := 4) (by kernel_rfl) (by kernel_rfl) (hl.get 0 rfl) rfl)) ?_; refine rr rfl (rd_lookup rfl rfl rfl ((lookup_of (k := ((a : Int), iaq, (b : Int), ibq)) Tryd.underlying129 (hl.get 2 rfl) kc4_eq (kc4_ok _) (z := .int .i64 0) (by kernel_rfl)).trans (congrArg some (kD_get D _)))) ?_; refine rr rfl (rd_bin rfl rfl rfl rfl) ?_; refine rm rfl ?_; refine re_end rfl ?_
      exact ⟨rfl, bl (by unfold skB; rw [hke, h54]; rfl), by repeat (first | exact subL_refl _ | refine subL_skip rfl ?_), hl⟩
    intro S1 hl
    refine xp_cond rfl rfl (fun h59 => ?_) (fun h59 => ?_)
    ·
     refine xp_exit rfl ?_; refine xg (by kernel_rfl) ?_; refine rm rfl ?_; refine rr rfl (rd_bin rfl rfl rfl (i6 (by omega))) ?_; refine rm rfl ?_; refine re_end rfl ?_
     rw [alB, alS_1 h59] at hp
     exact ⟨V.length - (b + 1), by omega, b + 1, D, O, ao, by omega, by omega, rfl, by omega, hp, ⟨rfl, rfl, rfl, rfl, rfl, rfl, rfl, rfl, rfl, rfl, rfl, rfl, rfl, rfl, rfl, trivial⟩, hl.tail⟩
    ·
     refine xp_skip rfl ?_; refine xs (by kernel_rfl) ?_; refine rm rfl ?_; refine rr rfl (rd_load rfl rfl (loadN_of (z := 4) (by kernel_rfl) (by kernel_rfl) (hl.get 0 rfl) rfl)) ?_; refine rm rfl ?_; refine rr rfl (rd_bin rfl rfl rfl (i6 (by omega))) ?_; refine re_mapUpdateL hl 2 (k := ((a : Int), iaq, (b : Int), ibq)) rfl rfl rfl rfl rfl rfl rfl rfl Tryd.underlying129 kc4_eq (kc4_ok _) (kc4_pl _) (kc4_sm _) ?_; intro S1 hl
     rw [kD_put, ← hke] at hl
     refine re_end rfl ?_; refine xg (by kernel_rfl) ?_; iterate 8 refine rm rfl ?_
     refine re_callL hl rfl rfl rfl rfl rfl rfl rfl (spec55 bd aV aS aK cV cS cK V L M n a b (hd.keep hl.keep) hnn) ?_; rintro v S1 hk1 rfl hl
     iterate 4 refine rm rfl ?_
     refine re_callL hl rfl rfl rfl rfl rfl rfl rfl (spec56 bd aV aS aK cV cS cK V L M n a b (hl.keep.3 hF) (hG.keep hl.keep) (hd.keep hl.keep) hnn hav hbv) ?_; rintro v S1 hk1 rfl hl
     refine rr rfl (rd_build rfl rfl (v := aggL [.int .i64 (n : Int), .int .i64 (a : Int), .int .i64 (b : Int), .int .i64 (clK M n a b), .int .i64 (trE V L M n a b)]) (by rfl)) ?_; refine re_buildSliceR hl rfl rfl rfl rfl rfl Tryd.underlying68 rfl (c := [.int .i64 (n : Int), .int .i64 (a : Int), .int .i64 (b : Int), .int .i64 (clK M n a b), .int .i64 (trE V L M n a b)]) (by kernel_rfl) ?_; intro B79 S1 hr79 hl
     refine re_appendG hl 0 rfl rfl (by simp) rfl rfl rfl rfl rfl rfl rfl Tryd.underlying68 Tryd.underlying68 rfl rfl (by kernel_rfl) (src_row (new := [.int .i64 (n : Int), .int .i64 (a : Int), .int .i64 (b : Int), .int .i64 (clK M n a b), .int .i64 (trE V L M n a b)]) hr79 rfl) rfl rfl (by kernel_rfl) (by show O.length + 1 ≤ maxNeed; unfold maxNeed; omega) ?_; intro v80 S1 hl
     obtain ⟨av3, rfl⟩ : ∃ av3, v80 = .slice av3 (O.length + 1) (O.length + 1) := Grow.is (hl.gr _ (List.mem_cons_self ..))
     refine rm rfl ?_; refine re_end rfl ?_; refine xg (by kernel_rfl) ?_; refine rm rfl ?_; refine rr rfl (rd_bin rfl rfl rfl (i6 (by omega))) ?_; refine rm rfl ?_; refine re_end rfl ?_
     rw [alB, alS_2 h59] at hp
     refine ⟨V.length - (b + 1), by omega, b + 1, _, O ++ [⟨n, a, b, clK M n a b, trE V L M n a b⟩], av3, by omega, by omega, rfl, by rw [List.length_append]; show O.length + 1 ≤ _; omega, hp, ⟨rfl, rfl, rfl, rfl, rfl, rfl, rfl, rfl, rfl, rfl, rfl, congrArg some (congrArg (fun n => Value.slice av3 n n) (by rw [List.length_append]; rfl)), rfl, rfl, rfl, trivial⟩, ?_⟩
     rw [gOf_push]
     exact hl.tail
   ·
    refine xp_exit rfl ?_; refine xg (by kernel_rfl) ?_; refine rr rfl (rd_bin rfl rfl rfl (i6 (by omega))) ?_; refine rm rfl ?_; refine re_end rfl ?_
    have hbe : V.length - b = 0 := by have := of_decide_eq_false h36; omega
    rw [hbe] at hp
    rw [alA, ← hp] at hp1
    exact ⟨V.length - (a + 1), by omega, a + 1, D, O, ao, by omega, rfl, by omega, hp1, ⟨rfl, rfl, rfl, rfl, rfl, rfl, rfl, rfl, rfl, rfl, rfl, rfl, trivial⟩, hl⟩
  ·
   refine xp_exit rfl ?_; refine xg (by kernel_rfl) ?_; refine rr rfl (rd_bin rfl rfl rfl (i6 (by omega))) ?_; refine rm rfl ?_; refine re_end rfl ?_
   have hae : V.length - a = 0 := by have := of_decide_eq_false h26; omega
   rw [hae] at hp1
   rw [alL, ← hp1] at hp0
   exact ⟨L.length - (n + 1), by omega, n + 1, D1, O1, ao1, by omega, rfl, by omega, hp0, ⟨rfl, rfl, rfl, rfl, rfl, rfl, rfl, trivial⟩, hl.tail⟩
 ·
  refine xp_exit rfl ?_; refine xs (by kernel_rfl) ?_; iterate 2 refine rm rfl ?_
  refine re_end rfl ?_; refine xp_ret rfl ?_
  refine done_ret (ress_tmp rfl rfl) ⟨hl.keep, ds_end hp0 (by have := of_decide_eq_false h18; omega) (hl.gr _ (List.mem_cons_self ..))⟩
end Go.Proofs.YtlnenodplgpceaaDoor
namespace Go.Proofs.YtlnenodplgpceaaDoor
open Go.Cm Go
set_option maxRecDepth 100000
variable {S : St}
theorem ch_len {V : List (List Ev)} {L : List Sl} {n : Nat} : ∀ f v : Nat, (chI V L n f v).length ≤ f
 | 0, _ => Nat.le_refl _
 | f + 1, v => by
  cases h : chB V L n v with
  | true => rw [ch_1 h]; exact Nat.succ_le_succ (ch_len f (v + 1))
  | false => rw [ch_2 h]; exact Nat.le_succ_of_le (ch_len f (v + 1))
theorem clI_len {low x : Pt} {a : Nat} : ∀ (r : List Pt) (b : Nat), (clI low x a r b).length ≤ r.length
 | [], _ => Nat.le_refl _
 | y :: r, b => by
  cases h1 : decide ((b : Int) ≤ (a : Int)) with
  | true => rw [clI_1 h1]; exact Nat.le_succ_of_le (clI_len r (b + 1))
  | false =>
   cases h2 : clB low x y with
   | false => rw [clI_3 h1 h2]; exact Nat.le_succ_of_le (clI_len r (b + 1))
   | true => rw [clI_2 h1 h2]; exact Nat.succ_le_succ (clI_len r (b + 1))
theorem clO_len {low : Pt} {C : List Pt} : ∀ (r : List Pt) (a : Nat), (clO low C r a).length ≤ r.length * C.length
 | [], _ => Nat.zero_le _
 | x :: r, a => by
  rw [clO_step, List.length_append, List.length_cons, Nat.succ_mul]
  have h1 := clI_len (low := low) (x := x) (a := a) C 0
  have h2 := clO_len (low := low) (C := C) r (a + 1)
  omega
theorem cls_len {C : List Pt} (h : C.length ≤ 8) : (clsE C).1.length ≤ 64 := by
 cases h1 : (chkE C != 0) with
 | true => rw [cls_1 h1]; exact Nat.zero_le _
 | false =>
  rw [cls_2 h1]
  exact Nat.le_trans (clO_len C 0) (Nat.mul_le_mul h h)
theorem clI_bd {low x : Pt} {a : Nat} : ∀ (r : List Pt) (b : Nat) (c : Cl), c ∈ clI low x a r b → c.a = (a : Int) ∧ (b : Int) ≤ c.b ∧ c.b < ((b + r.length : Nat) : Int)
 | [], _, _, h => (List.not_mem_nil h).elim
 | y :: r, b, c, h => by
  have hr : c ∈ clI low x a r (b + 1) → c.a = (a : Int) ∧ (b : Int) ≤ c.b ∧ c.b < ((b + (r.length + 1) : Nat) : Int) := fun h => by
   obtain ⟨h1, h2, h3⟩ := clI_bd r (b + 1) c h
   exact ⟨h1, by omega, by omega⟩
  cases h1 : decide ((b : Int) ≤ (a : Int)) with
  | true => rw [clI_1 h1] at h; exact hr h
  | false =>
   cases h2 : clB low x y with
   | false => rw [clI_3 h1 h2] at h; exact hr h
   | true =>
    rw [clI_2 h1 h2] at h
    rcases List.mem_cons.1 h with rfl | h
    ·exact ⟨rfl, Int.le_refl _, by show (b : Int) < ((b + (r.length + 1) : Nat) : Int); omega⟩
    ·exact hr h
theorem clO_bd {low : Pt} {C : List Pt} : ∀ (r : List Pt) (a : Nat) (c : Cl), c ∈ clO low C r a → ((a : Int) ≤ c.a ∧ c.a < ((a + r.length : Nat) : Int)) ∧ 0 ≤ c.b ∧ c.b < (C.length : Int)
 | [], _, _, h => (List.not_mem_nil h).elim
 | x :: r, a, c, h => by
  rw [clO_step] at h
  rcases List.mem_append.1 h with h | h
  ·obtain ⟨h1, h2, h3⟩ := clI_bd C 0 c h
   rw [h1]
   exact ⟨⟨Int.le_refl _, by show (a : Int) < ((a + (r.length + 1) : Nat) : Int); omega⟩, by omega, by omega⟩
  ·obtain ⟨⟨h1, h2⟩, h3⟩ := clO_bd r (a + 1) c h
   exact ⟨⟨by omega, by show c.a < ((a + (r.length + 1) : Nat) : Int); omega⟩, h3⟩
theorem cls_bd {C : List Pt} {c : Cl} (h : c ∈ (clsE C).1) : (0 ≤ c.a ∧ c.a < (C.length : Int)) ∧ 0 ≤ c.b ∧ c.b < (C.length : Int) := by
 cases h1 : (chkE C != 0) with
 | true => rw [cls_1 h1] at h; exact (List.not_mem_nil h).elim
 | false =>
  rw [cls_2 h1] at h
  obtain ⟨⟨h1, h2⟩, h3⟩ := clO_bd C 0 c h
  exact ⟨⟨by omega, by omega⟩, h3⟩
def pdG (W : List Int) : List Cl → PD → PD
 | [], D => D
 | c :: r, D => pdG W r (putI D ((nth W c.a.toNat).getD 0, (nth W c.b.toNat).getD 0) c.k)
def pdE (V : List (List Ev)) (L : List Sl) (n : Nat) : PD := pdG ((chE V L n).map (·.1)) (clsE ((chE V L n).map (·.2))).1 []
def ksE (V : List (List Ev)) (L : List Sl) : List PD := (List.range L.length).map (pdE V L)
theorem ks_at {V : List (List Ev)} {L : List Sl} {k : Nat} {D : PD} (h : nth (ksE V L) k = some D) : D = pdE V L k := by
 unfold ksE at h
 obtain ⟨j, hj, rfl⟩ := nth_unmap2 h
 rw [nth_eq] at hj
 have := List.getElem?_range (n := L.length) (i := k) (by
  rcases Nat.lt_or_ge k L.length with h | h
  ·exact h
  ·rw [List.getElem?_eq_none (by simpa using h)] at hj; cases hj)
 rw [this] at hj
 cases hj
 rfl
theorem evs_lo (t : Ti) : ∀ (V : List (List Ev)) (A : List Nat) (i : Int), i ∈ evs V t A → -1 ≤ i
 | [], _, _, h => by unfold evs at h; simp at h
 | _ :: _, [], _, h => by unfold evs at h; simp at h
 | v :: V, k :: A, i, h => by
  unfold evs at h
  rw [List.zipWith_cons_cons] at h
  rcases List.mem_cons.1 h with rfl | h
  ·unfold hrE
   cases decide ((cmpE (endE v).1 t).1 ≤ 0) with
   | true => exact Int.le_refl _
   | false => show (-1 : Int) ≤ ((advE v t k : Nat) : Int); omega
  ·exact evs_lo t V A i h
theorem slG_lo {V : List (List Ev)} : ∀ (l : List Ti) (A : List Nat) (s : Sl), s ∈ (slG V l A).1 → ∀ i, i ∈ s.ev → -1 ≤ i
 | [], _, _, h => (List.not_mem_nil h).elim
 | [_], _, _, h => (List.not_mem_nil h).elim
 | t :: u :: r, A, s, h => by
  cases he : ((subE u t).2 != 0) with
  | true => rw [slG_1 he] at h; exact (List.not_mem_nil h).elim
  | false =>
   rw [slG_2 he] at h
   rcases List.mem_cons.1 h with rfl | h
   ·exact evs_lo t V A
   ·exact slG_lo (u :: r) (upd V t A) s h
theorem sls_lo {V : List (List Ev)} (n v : Nat) : -1 ≤ evI (slsE V).1 n v := by
 unfold evI
 cases hn : nth (slsE V).1 n with
 | none => exact Int.le_refl _
 | some s =>
  show -1 ≤ (nth s.ev v).getD (-1)
  cases hv : nth s.ev v with
  | none => exact Int.le_refl _
  | some i =>
   have hm := nth_mem hn
   have hi := nth_mem hv
   cases h1 : ((acE V).1 != 0) with
   | true => rw [sls_1 h1] at hm; exact (List.not_mem_nil hm).elim
   | false =>
    by_cases h2 : (slE V).2 = 0
    ·rw [sls_3 h1 h2] at hm; exact slG_lo _ _ s hm i hi
    ·rw [sls_2 h1 h2] at hm; exact (List.not_mem_nil hm).elim
theorem rp_mapUpdateL {κ : Type} [DecidableEq κ] {kc : κ → Value} {P : Program} {K : Known} {n : Nat} {L : Env} {S S0 : St} {Q : Post} {ops : List Oper} {o : Oper} {Ts : List St} {l : List (Nat × Blk)} {gs : List Gr} {bef : List Nat} {pl : List (Oper × Nat)} {q j : Nat} {E : List CkE} (hl : HoldG S0 Ts S l gs) (j0 : Nat) {t kt et : TypeId} {x y z : Operand} {M : Nat} {D : List (κ × Value)} {k : κ} {v : Value} (hk : nth l j0 = some (M, mapB kc D)) (ho : nth pl q = some (o, j)) (hop : o.op = .mapUpdate t x y z) (hw : wantE ops L o = some true) (hd : o.dst = none)
  (hx : Cm.evE L x = some (.map (some M))) (hy : Cm.evE L y = some (kc k)) (hz : Cm.evE L z = some v) (hu : P.underlying t = some (.map kt et)) (heq : ∀ a b, eqV P eqDepth kt (kc a) (kc b) = some (decide (a = b)))
  (hok : keyOk P 20 kt (kc k) = true) (hpl : plainKey 20 (kc k) = true) (hsame : sameV 1000 (kc k) (kc k) = true)
  (h : ∀ S', HoldG S0 Ts S' (putB j0 (mapB kc (putA D k v)) l) gs → Stays P n S' ((nth bef j).getD 0) E ∧ RP P K n ops bef pl (q + 1) (left ((nth bef j).getD 0) E) L S' Q) : RP P K n ops bef pl q E L S Q :=
 rp_heavy (v := undef) ho (by rw [hop]; rfl) hw hd (fun a ha => ⟨0, by rw [hop]; unfold stepOp; simp only [kindOf, heavyOp]; rw [ha.ev hx, ha.ev hy, ha.ev hz, mapUpdate_of hu (hl.get j0 hk) heq hok hpl hsame]⟩) (h _ (hl.put hk rfl _)).1 (h _ (hl.put hk rfl _)).2
def Kms (V : List (List Ev)) (L : List Sl) (ws : List Value) (ms : List (Nat × Blk)) : Prop := (ms.all fun p => !isRow p.2) = true ∧ ∀ j w, nth ws j = some w → ∃ r, w = .map (some r) ∧ (r, mapB kc2 (kD (pdE V L j))) ∈ ms
theorem nth_snoc {α : Type} {l : List α} {x y : α} {j : Nat} (h : nth (l ++ [x]) j = some y) : nth l j = some y ∨ (j = l.length ∧ y = x) := by
 rw [nth_eq] at h ⊢
 rw [List.getElem?_append] at h
 split at h
 ·exact .inl h
 ·rename_i hj
  right
  have e : j - l.length = 0 := by
   rcases Nat.eq_zero_or_pos (j - l.length) with h0 | h0
   ·exact h0
   ·rw [List.getElem?_eq_none (by simp; omega)] at h; cases h
  rw [e] at h
  cases h
  exact ⟨by omega, rfl⟩
theorem Kms.push {V : List (List Ev)} {L : List Sl} {ws : List Value} {ms : List (Nat × Blk)} {B : Nat} (h : Kms V L ws ms) : Kms V L (ws ++ [.map (some B)]) ((B, mapB kc2 (kD (pdE V L ws.length))) :: ms) := by
 refine ⟨by rw [List.all_cons, h.1]; rfl, fun j w hw => ?_⟩
 rcases nth_snoc hw with hw | ⟨rfl, rfl⟩
 ·obtain ⟨r, e1, e2⟩ := h.2 j w hw
  exact ⟨r, e1, List.mem_cons_of_mem _ e2⟩
 ·exact ⟨B, rfl, List.mem_cons_self ..⟩
theorem Kms.kds {V : List (List Ev)} {L : List Sl} {ws : List Value} {ms l : List (Nat × Blk)} {aK : Option Addr} {S0 S : St} {Ts : List St} {gs : List Gr} (h : Kms V L ws ms) (hl : HoldG S0 Ts S l gs) (hm : ∀ p, p ∈ ms → p ∈ l) (hn : ws.length = L.length) (hg : LsOf 125 1 (fun w => [w]) S (.slice aK ws.length ws.length) ws) : Kds S (.slice aK (ksE V L).length ws.length) (ksE V L) := by
 have he : (ksE V L).length = ws.length := by unfold ksE; rw [List.length_map, List.length_range, hn]
 rw [he]
 refine ⟨ws, hg, he.symm, fun k w D h1 h2 => ?_⟩
 obtain ⟨r, rfl, hr⟩ := h.2 k w h1
 rw [ks_at h2]
 obtain ⟨e1, _, e3⟩ := hl.at_ _ _ (hm _ hr)
 exact ⟨r, rfl, e3, e1⟩
def BeR (S' : St) (aV : Option Addr) (cV : Nat) (V : List (List Ev)) (v : Value) : Prop := (((slsE V).2 != 0) = true ∧ v = tupV [.pointer none, .int .i64 (slsE V).2]) ∨ (((slsE V).2 != 0) = false ∧ ∃ bd aS aK cS cK, v = tupV [ptrTo bd 0, .int .i64 0] ∧ KSet S' bd aV aS aK cV cS cK V (slsE V).1 (ksE V (slsE V).1))
noncomputable def c39 : Code := Tryd.f39.body.getD .skip
theorem spec39 (aV : Option Addr) (cV : Nat) (V : List (List Ev)) (hF : Fresh S) (hG : Gl S) (hv : Vs S (.slice aV V.length cV) V) : CC Tryd.prog KK 39 [.slice aV V.length cV] S (fun v S' => Keep S S' ∧ BeR S' aV cV V v) := by
 refine cc_enter (c := c39) (n := 77) Tryd.func39 rfl rfl rfl (by kernel_rfl) rfl rfl ?_
 have hl := Hold.start S
 refine xs (by kernel_rfl) ?_; iterate 2 refine rm rfl ?_
 refine re_end rfl ?_; refine xs (by kernel_rfl) ?_; refine rm rfl ?_
 refine re_callL hl rfl rfl rfl rfl rfl rfl rfl (spec47 aV cV V (hl.keep.3 hF) (hv.move (hl.since 0 rfl))) ?_; rintro v Sm hk1 ⟨w, rfl, hs⟩ hl; have hl := hl.mark; obtain ⟨aS, cS, rfl⟩ := Sls.is hs; obtain ⟨L, hLd⟩ : ∃ L, L = (slsE V).1 := ⟨_, rfl⟩; rw [← hLd] at hs ⊢
 iterate 5 refine rm rfl ?_
 refine re_end rfl ?_; refine xp_seq rfl ?_; refine xs (by kernel_rfl) ?_; refine rm rfl ?_; refine rr rfl (rd_bin rfl rfl rfl rfl) ?_; refine re_end rfl ?_; refine xp_cond rfl rfl (fun h21 => ?_) (fun h21 => ?_)
 ·
  refine xs (by kernel_rfl) ?_; iterate 3 refine rm rfl ?_
  refine re_end rfl ?_; refine xp_ret rfl ?_
  refine thn_ret (done_ret (ress_tmp rfl (ress_tmp rfl rfl)) ⟨hl.keep, .inl ⟨h21, rfl⟩⟩)
 ·
  obtain ⟨hn, hV⟩ := ac_ok (sls_e h21)
  have hLL := sls_len hn hV
  have hwf : WF V L := by rw [hLd]; exact sls_wf
  rw [← hLd] at hLL
  have hset : SetAt Sm aV aS cV cS V L := ⟨hv.move hk1.rk, hs, hwf, hn, hV, hLL⟩
  refine xp_skip rfl ?_; refine xs (by kernel_rfl) ?_; iterate 2 refine rm rfl ?_
  refine rr rfl (rd_build rfl rfl (v := aggL [.slice aV V.length cV, .slice aS L.length cS, .slice none 0 0]) (by rfl)) ?_; refine re_boxL hl rfl rfl rfl rfl rfl rfl ?_; intro B26 S26 hl; refine rm rfl ?_; refine re_end rfl ?_; refine xp_seq rfl ?_; refine xs (by kernel_rfl) ?_; refine rm rfl ?_; refine rr rfl (rd_len rfl rfl (len_slice Tryd.underlying88)) ?_; refine rm rfl ?_; refine re_end rfl ?_; refine xp_block rfl ?_
  -- LOOP
  have hl := hl.addG (g := gOf 125 1 (fun w => [w]) (.slice none 0 0) ([] : List Value)) (.inl ⟨rfl, rfl, rfl⟩)
  refine xe_sub (L' := [(29, .int .i64 0), (28, .int .i64 (L.length : Int)), (6, ptrTo B26 0), (3, .int .i64 0), (2, .pointer none)]) ⟨rfl, rfl, rfl, rfl, rfl, trivial⟩ ?_
  refine xp_loop rfl (fun m Le S' => ∃ (n : Nat) (ws : List Value) (ms : List (Nat × Blk)) (aK : Option Addr), n ≤ L.length ∧ m = L.length - n ∧ ws.length = n ∧ Kms V L ws ms ∧ SubE [(29, .int .i64 (n : Int)), (28, .int .i64 (L.length : Int)), (6, ptrTo B26 0), (3, .int .i64 0), (2, .pointer none)] Le ∧ HoldG S [Sm, S] S' ((B26, .cells [.slice aV V.length cV, .slice aS L.length cS, .slice aK ws.length ws.length] 118 false true []) :: ms) [gOf 125 1 (fun w => [w]) (.slice aK ws.length ws.length) ws]) ?_ (m := L.length) ⟨0, [], [], none, by omega, rfl, rfl, ⟨rfl, fun j w h => by cases j <;> cases h⟩, ⟨rfl, rfl, rfl, rfl, rfl, trivial⟩, hl⟩
  clear hl; rintro m Le S' ⟨n, ws, ms, aK, hnL, rfl, hws, hms, hsub, hl⟩; refine xe_sub hsub ?_
  refine xs (by kernel_rfl) ?_; refine rr rfl (rd_bin rfl rfl rfl rfl) ?_; refine re_end rfl ?_; refine xp_seq rfl ?_; refine xp_cond rfl rfl (fun h30 => ?_) (fun h30 => ?_)
  ·
   have hnn : n < L.length := by have := of_decide_eq_true h30; omega
   have hd : DSet _ B26 aV aS cV cS (.slice aK ws.length ws.length) V L := ⟨(hl.at_ B26 _ (nth_mem (k := 0) rfl)).2.2, hl.get 0 rfl, hset.move (hl.since 0 rfl)⟩
   refine xp_skip rfl ?_; refine xp_seq rfl ?_; refine xp_block rfl ?_; refine xs (by kernel_rfl) ?_; iterate 2 refine rm rfl ?_
   refine re_end rfl ?_; refine xs (by kernel_rfl) ?_; iterate 2 refine rm rfl ?_
   refine re_callL hl rfl rfl rfl rfl rfl rfl rfl (spec53 B26 aV aS cV cS (.slice aK ws.length ws.length) V L n hd hnn) ?_; rintro v Sc hk2 ⟨w1, w2, rfl, hw1, hw2⟩ hl; have hl := hl.mark; obtain ⟨W, hWd⟩ : ∃ W, W = (chE V L n).map (·.1) := ⟨_, rfl⟩; obtain ⟨P, hPd⟩ : ∃ P, P = (chE V L n).map (·.2) := ⟨_, rfl⟩; rw [← hWd] at hw1; rw [← hPd] at hw2; obtain ⟨a1, c1, rfl⟩ := LsOf.is hw1; obtain ⟨a2, c2, rfl⟩ := LsOf.is hw2
   iterate 5 refine rm rfl ?_
   refine re_end rfl ?_; refine xs (by kernel_rfl) ?_; refine rm rfl ?_
   refine re_callL hl rfl rfl rfl rfl rfl rfl rfl (spec54 a2 c2 _ (hl.keep.3 hF) (hG.keep hl.keep) (hw2.move (hl.since 0 rfl))) ?_; rintro v Sd hk3 ⟨a3, rfl, hg3⟩ hl; have hl := hl.mark; obtain ⟨K, hKd⟩ : ∃ K, K = (clsE P).1 := ⟨_, rfl⟩; rw [← hKd] at hg3 ⊢; have hcl := Grow.ls (f := Cl.cells) (fun _ => rfl) hg3; have hpd : pdE V L n = pdG W K [] := by unfold pdE; rw [← hWd, ← hPd, ← hKd]
   have hKl : K.length ≤ 64 := by rw [hKd]; exact cls_len (by rw [hPd, List.length_map]; exact Nat.le_trans (ch_len V.length 0) hn)
   iterate 5 refine rm rfl ?_
   refine re_end rfl ?_; refine xs (by kernel_rfl) ?_; refine re_makeMapL hl kc2 rfl rfl rfl rfl rfl ?_; intro B43 S43 hl; refine rm rfl ?_; refine re_end rfl ?_; refine xp_seq rfl ?_; refine xs (by kernel_rfl) ?_; refine rm rfl ?_; refine rr rfl (rd_len rfl rfl (len_slice Tryd.underlying122)) ?_; refine rm rfl ?_; refine re_end rfl ?_; refine xp_block rfl ?_
   -- LOOP
   refine xe_sub (L' := [(46, .int .i64 0), (45, .int .i64 (K.length : Int)), (44, .slice a3 K.length K.length), (12, .map (some B43)), (8, .slice a1 W.length c1), (29, .int .i64 (n : Int)), (28, .int .i64 (L.length : Int)), (6, ptrTo B26 0), (3, .int .i64 0), (2, .pointer none)]) ⟨rfl, rfl, rfl, rfl, rfl, rfl, rfl, rfl, rfl, rfl, trivial⟩ ?_
   refine xp_loop rfl (fun m Le S' => ∃ (j : Nat) (D : PD), j ≤ K.length ∧ m = K.length - j ∧ pdG W (K.drop j) D = pdE V L n ∧ SubE [(46, .int .i64 (j : Int)), (45, .int .i64 (K.length : Int)), (44, .slice a3 K.length K.length), (12, .map (some B43)), (8, .slice a1 W.length c1), (29, .int .i64 (n : Int)), (28, .int .i64 (L.length : Int)), (6, ptrTo B26 0), (3, .int .i64 0), (2, .pointer none)] Le ∧ HoldG S [Sd, Sc, Sm, S] S' ((B43, mapB kc2 (kD D)) :: (B26, .cells [.slice aV V.length cV, .slice aS L.length cS, .slice aK ws.length ws.length] 118 false true []) :: ms) [gOf 125 1 (fun w => [w]) (.slice aK ws.length ws.length) ws]) ?_ (m := K.length) ⟨0, [], by omega, rfl, hpd.symm, ⟨rfl, rfl, rfl, rfl, rfl, rfl, rfl, rfl, rfl, rfl, trivial⟩, hl⟩
   clear hl; rintro m Le S' ⟨j, D, hj, rfl, hD, hsub2, hl⟩; refine xe_sub hsub2 ?_
   refine xs (by kernel_rfl) ?_; refine rr rfl (rd_bin rfl rfl rfl rfl) ?_; refine re_end rfl ?_; refine xp_seq rfl ?_; refine xp_cond rfl rfl (fun h47 => ?_) (fun h47 => ?_)
   ·
    have hjl : j < K.length := by have := of_decide_eq_true h47; omega
    obtain ⟨c, hc⟩ := nth_some hjl
    obtain ⟨b4, o4, cs4, ha4, _, hrow4, htk4⟩ := hcl.elem hc
    have hbd := cls_bd (C := P) (by rw [← hKd]; exact nth_mem hc)
    have hlW : W.length = P.length := by rw [hWd, hPd, List.length_map, List.length_map]
    obtain ⟨wa, hwa⟩ := nth_some (l := W) (i := c.a.toNat) (by omega)
    obtain ⟨wb, hwb⟩ := nth_some (l := W) (i := c.b.toNat) (by omega)
    obtain ⟨b5, o5, cs5, ha5, _, hrow5, htk5⟩ := hw1.elem hwa
    obtain ⟨b6, o6, cs6, ha6, _, hrow6, htk6⟩ := hw1.elem hwb
    rw [drop_nth' hc] at hD
    rw [pdG, hwa, hwb] at hD
    refine xp_skip rfl ?_; refine xp_seq rfl ?_; refine xp_block rfl ?_; refine xs (by kernel_rfl) ?_; refine rr rfl (rd_indexAddr rfl rfl rfl (indexAddr_sl (z := 3) ha4 Tryd.underlying122 (by kernel_rfl) ⟨by omega, by omega⟩)) ?_; refine rr rfl (rd_load rfl rfl (loadN_row (z := 3) (by kernel_rfl) (by kernel_rfl) (row_move (hl.since 0 rfl) hrow4) htk4)) ?_; refine re_allocL hl rfl rfl rfl rfl rfl (z := [.int .i64 0, .int .i64 0, .int .i64 0]) (by kernel_rfl) ?_; intro B14 S14 hl; refine re_storeL hl 0 rfl rfl rfl rfl rfl rfl rfl (by kernel_rfl) rfl ?_; intro S1 hl; refine re_end rfl ?_
    refine xp_draw (idx := [0, 1, 2, 3, 4, 5, 6, 7, 8, 9, 10, 11, 12, 13, 14]) rfl (by kernel_rfl) (by kernel_rfl) ?_; iterate 2 refine pm rfl ?_
    refine pr rfl (rd_fieldAddr rfl rfl (fa Tryd.underlying127 az127 rfl)) ?_; refine pk rfl (rl hl 0 rfl rfl (by kernel_rfl) rfl rfl) ?_; refine pr rfl (rd_indexAddr rfl rfl rfl (indexAddr_sl (z := 1) ha5 Tryd.underlying22 (by kernel_rfl) ⟨by omega, by omega⟩)) ?_; refine pk rfl (rd_load rfl rfl (load1_row (by kernel_rfl) (row_move (hl.since 1 rfl) hrow5) (tk_nth (j := 0) htk5 rfl))) ?_; refine pm rfl ?_; refine pr rfl (rd_fieldAddr rfl rfl (fa Tryd.underlying127 az127 rfl)) ?_; refine pk rfl (rl hl 0 rfl rfl (by kernel_rfl) rfl rfl) ?_
    refine pr rfl (rd_indexAddr rfl rfl rfl (indexAddr_sl (z := 1) ha6 Tryd.underlying22 (by kernel_rfl) ⟨by omega, by omega⟩)) ?_; refine pk rfl (rd_load rfl rfl (load1_row (by kernel_rfl) (row_move (hl.since 1 rfl) hrow6) (tk_nth (j := 0) htk6 rfl))) ?_; refine pr rfl (rd_build rfl rfl (v := aggL [.int .i64 wa, .int .i64 wb]) (by rfl)) ?_; refine pr rfl (rd_fieldAddr rfl rfl (fa Tryd.underlying127 az127 rfl)) ?_; refine pk rfl (rl hl 0 rfl rfl (by kernel_rfl) rfl rfl) ?_
    refine rp_mapUpdateL hl 1 (k := (wa, wb)) rfl rfl rfl rfl rfl rfl rfl rfl Tryd.underlying125 kc2_eq (kc2_ok _) (kc2_pl _) (kc2_sm _) ?_; intro S1 hl; refine ⟨stays_all (by kernel_rfl), ?_⟩
    rw [kD_put] at hl
    refine rp_end rfl ?_; refine xg (by kernel_rfl) ?_; refine rr rfl (rd_bin rfl rfl rfl (i6 (by omega))) ?_; refine rm rfl ?_; refine re_end rfl ?_
    exact ⟨K.length - (j + 1), by omega, j + 1, _, by omega, rfl, hD, ⟨rfl, rfl, rfl, rfl, rfl, rfl, rfl, rfl, rfl, rfl, trivial⟩, hl.tail⟩
   ·
    have hje : K.length ≤ j := by have := of_decide_eq_false h47; omega
    rw [List.drop_eq_nil_of_le hje] at hD
    obtain rfl : D = pdE V L n := hD
    refine xp_exit rfl ?_; refine xg (by kernel_rfl) ?_; iterate 2 refine rm rfl ?_
    refine rr rfl (rd_nilCheck rfl rfl rfl) ?_; refine rr rfl (rd_fieldAddr rfl rfl (fa Tryd.underlying118 az118 rfl)) ?_; refine rr rfl (rl hl 1 rfl rfl (by kernel_rfl) rfl rfl) ?_; refine rm rfl ?_; refine re_buildSliceR hl rfl rfl rfl rfl rfl Tryd.underlying116 rfl (c := [Value.map (some B43)]) (by kernel_rfl) ?_; intro B71 S1 hr71 hl
    refine re_appendG hl 0 rfl (by show (true && (true && _)) = true; rw [hms.1]; rfl) (by simp) rfl rfl rfl rfl rfl rfl rfl Tryd.underlying116 Tryd.underlying116 rfl rfl (by kernel_rfl) (src_row (new := [Value.map (some B43)]) hr71 rfl) rfl rfl (by kernel_rfl) (by show ws.length + 1 ≤ maxNeed; unfold maxNeed; omega) ?_; intro v72 S1 hl
    obtain ⟨av3, rfl⟩ : ∃ av3, v72 = .slice av3 (ws.length + 1) (ws.length + 1) := Grow.is (hl.gr _ (List.mem_cons_self ..))
    refine rr rfl (rd_nilCheck rfl rfl rfl) ?_; refine rr rfl (rd_fieldAddr rfl rfl (fa Tryd.underlying118 az118 rfl)) ?_; refine re_storeL hl 1 rfl rfl rfl rfl rfl rfl rfl (by kernel_rfl) rfl ?_; intro S1 hl; refine re_end rfl ?_; refine xg (by kernel_rfl) ?_; refine rr rfl (rd_bin rfl rfl rfl (i6 (by omega))) ?_; refine rm rfl ?_; refine re_end rfl ?_
    refine ⟨L.length - (n + 1), by omega, n + 1, ws ++ [.map (some B43)], (B43, mapB kc2 (kD (pdE V L n))) :: ms, av3, by omega, rfl, by rw [List.length_append, hws]; rfl, by have := hms.push (B := B43); rw [hws] at this; exact this, ⟨rfl, rfl, rfl, rfl, rfl, trivial⟩, ?_⟩
    rw [gOf_push, List.length_append]
    exact (hl.marks (fun T hT => List.mem_cons_of_mem _ (List.mem_cons_of_mem _ hT))).perm (List.Perm.swap ..)
  ·
   refine xp_exit rfl ?_; refine xs (by kernel_rfl) ?_; iterate 3 refine rm rfl ?_
   refine re_end rfl ?_; refine xp_ret rfl ?_
   have hnE : n = L.length := by have := of_decide_eq_false h30; omega
   refine done_ret (ress_tmp rfl (ress_tmp rfl rfl)) ⟨hl.keep, .inr ⟨h21, by rw [← hLd]; exact ⟨B26, aS, aK, cS, ws.length, rfl, ⟨⟨(hl.at_ B26 _ (nth_mem (k := 0) rfl)).2.2, by rw [show (ksE V L).length = ws.length by unfold ksE; rw [List.length_map, List.length_range]; omega]; exact hl.get 0 rfl, hset.move (hl.since 0 rfl)⟩, hms.kds hl (fun p hp => List.mem_cons_of_mem _ hp) (by omega) (Grow.ls (f := fun w => [w]) (fun _ => rfl) (hl.gr _ (List.mem_cons_self ..))), by unfold ksE; rw [List.length_map, List.length_range], by rw [hLd]; exact sls_lo⟩⟩⟩⟩
end Go.Proofs.YtlnenodplgpceaaDoor
namespace Go.Proofs.YtlnenodplgpceaaDoor
open Go.Cm Go
set_option maxRecDepth 100000
variable {S : St}
theorem BeR.is {S' : St} {aV : Option Addr} {cV : Nat} {V : List (List Ev)} {v : Value} (h : BeR S' aV cV V v) : ∃ w, v = tupV [w, .int .i64 (slsE V).2] ∧ (((slsE V).2 != 0) = false → ∃ bd aS aK cS cK, w = ptrTo bd 0 ∧ KSet S' bd aV aS aK cV cS cK V (slsE V).1 (ksE V (slsE V).1)) := by
 rcases h with ⟨h1, rfl⟩ | ⟨h1, bd, aS, aK, cS, cK, rfl, hk⟩
 ·exact ⟨_, rfl, fun h => by rw [h1] at h; cases h⟩
 ·have e : (slsE V).2 = 0 := by simpa using h1
  exact ⟨_, by rw [e], fun _ => ⟨bd, aS, aK, cS, cK, rfl, hk⟩⟩
def DsOk (q : MD × List Ds) (k : Nat) : Prop := q.2.length ≤ k ∧ ∀ x, x ∈ q.2 → 1 ≤ x.t ∧ x.t ≤ 4
section
variable {V : List (List Ev)} {L : List Sl} {M : List PD}
theorem trT_bd {n mv hh : Nat} : 1 ≤ trT V L M n mv hh ∧ trT V L M n mv hh ≤ 4 := by
 unfold trT
 cases paB V mv (evI L n mv) <;> cases tuB V mv (evI L n mv) <;> cases suE V L M n mv hh (evI L n mv) (evI L n hh) <;> decide
theorem trE_bd {n a b : Nat} : 1 ≤ trE V L M n a b ∧ trE V L M n a b ≤ 4 := by
 unfold trE
 cases stB V L n a == stB V L n b with
 | true => show (1 : Int) ≤ 4 ∧ (4 : Int) ≤ 4; decide
 | false =>
  cases stB V L n b with
  | true => exact trT_bd
  | false => exact trT_bd
theorem alS_ok {n a b : Nat} {q : MD × List Ds} {k : Nat} (h : DsOk q k) : DsOk (alS V L M n a b q) (k + 1) := by
 obtain ⟨D, O⟩ := q
 obtain ⟨h1, h2⟩ := h
 cases hs : skB L M n a b D with
 | true => rw [alS_1 hs]; exact ⟨Nat.le_succ_of_le h1, h2⟩
 | false =>
  rw [alS_2 hs]
  refine ⟨by show (O ++ [_]).length ≤ _; rw [List.length_append]; exact Nat.succ_le_succ h1, fun x hx => ?_⟩
  rcases List.mem_append.1 hx with hx | hx
  ·exact h2 x hx
  ·rw [List.mem_singleton.1 hx]; exact trE_bd
theorem alB_ok {n a : Nat} : ∀ (f b : Nat) (q : MD × List Ds) (k : Nat), DsOk q k → DsOk (alB V L M n a f b q) (k + f)
 | 0, _, _, _, h => h
 | f + 1, b, q, k, h => by
  rw [alB, show k + (f + 1) = k + 1 + f by omega]
  exact alB_ok f (b + 1) _ _ (alS_ok h)
theorem DsOk.mono {q : MD × List Ds} {k j : Nat} (h : DsOk q k) (hk : k ≤ j) : DsOk q j := ⟨Nat.le_trans h.1 hk, h.2⟩
theorem alA_ok {n : Nat} (hV : V.length ≤ 8) : ∀ (f a : Nat) (q : MD × List Ds) (k : Nat), DsOk q k → DsOk (alA V L M n f a q) (k + 8 * f)
 | 0, _, _, _, h => h
 | f + 1, a, q, k, h => by
  rw [alA]
  exact (alA_ok hV f (a + 1) _ (k + 8) ((alB_ok _ _ _ _ h).mono (by omega))).mono (by omega)
theorem alL_ok (hV : V.length ≤ 8) : ∀ (f n : Nat) (q : MD × List Ds) (k : Nat), DsOk q k → DsOk (alL V L M f n q) (k + 64 * f)
 | 0, _, _, _, h => h
 | f + 1, n, q, k, h => by
  rw [alL]
  exact (alL_ok hV f (n + 1) _ (k + 64) ((alA_ok hV _ _ _ _ h).mono (by omega))).mono (by omega)
theorem dsE_ok (hV : V.length ≤ 8) (hL : L.length ≤ 20000) : (dsE V L M).length ≤ 1280000 ∧ ∀ x, x ∈ dsE V L M → 1 ≤ x.t ∧ x.t ≤ 4 := by
 have h := alL_ok (L := L) (M := M) hV L.length 0 ([], []) 0 ⟨Nat.le_refl _, fun x hx => (List.not_mem_nil hx).elim⟩
 exact ⟨Nat.le_trans h.1 (by omega), h.2⟩
end
def dsA (V : List (List Ev)) : List Ds × Int := bif (slsE V).2 != 0 then ([], (slsE V).2) else (dsE V (slsE V).1 (ksE V (slsE V).1), 0)
theorem dsA_1 {V : List (List Ev)} (h : ((slsE V).2 != 0) = true) : dsA V = ([], (slsE V).2) := by unfold dsA; rw [h]; rfl
theorem dsA_2 {V : List (List Ev)} (h : ((slsE V).2 != 0) = false) : dsA V = (dsE V (slsE V).1 (ksE V (slsE V).1), 0) := by unfold dsA; rw [h]; rfl
theorem dsA_ok {V : List (List Ev)} : (dsA V).1.length ≤ 1280000 ∧ ∀ x, x ∈ (dsA V).1 → 1 ≤ x.t ∧ x.t ≤ 4 := by
 cases h1 : ((slsE V).2 != 0) with
 | true => rw [dsA_1 h1]; exact ⟨Nat.zero_le _, fun x hx => (List.not_mem_nil hx).elim⟩
 | false =>
  obtain ⟨hn, hV⟩ := ac_ok (sls_e h1)
  rw [dsA_2 h1]
  exact dsE_ok hn (sls_len hn hV)
def upC (O : List Int) (x : Ds) : List Int := O.set (x.t - 1).toNat ((nth O (x.t - 1).toNat).getD 0 + 1)
def cntG : List Ds → List Int → List Int
 | [], O => O
 | x :: r, O => cntG r (upC O x)
def COk (O : List Int) (k : Nat) : Prop := O.length = 4 ∧ ∀ c, c ∈ O → 0 ≤ c ∧ c ≤ (k : Int)
theorem COk.up {O : List Int} {k : Nat} {x : Ds} (h : COk O k) : COk (upC O x) (k + 1) := by
 unfold upC
 refine ⟨by rw [List.length_set]; exact h.1, fun c hc => ?_⟩
 rcases List.mem_or_eq_of_mem_set hc with hc | rfl
 ·have := h.2 c hc
  exact ⟨this.1, by omega⟩
 ·cases hn : nth O (x.t - 1).toNat with
  | none => show 0 ≤ (0 : Int) + 1 ∧ (0 : Int) + 1 ≤ _; omega
  | some d =>
   have := h.2 d (nth_mem hn)
   show 0 ≤ d + 1 ∧ d + 1 ≤ _
   omega
theorem cntG_ok : ∀ (r : List Ds) (O : List Int) (k : Nat), COk O k → COk (cntG r O) (k + r.length)
 | [], _, _, h => h
 | x :: r, O, k, h => by
  rw [cntG, List.length_cons, show k + (r.length + 1) = k + 1 + r.length by omega]
  exact cntG_ok r _ _ h.up
def z4 : List Int := [0, 0, 0, 0]
theorem z4_ok : COk z4 0 := ⟨rfl, fun c hc => by
 have : c = 0 := by
  unfold z4 at hc
  simpa using hc
 omega⟩
def cnE (V : List (List Ev)) : List Int × Int := bif (dsA V).2 != 0 then ([], (dsA V).2) else (cntG (dsA V).1 z4, 0)
theorem cn_1 {V : List (List Ev)} (h : ((dsA V).2 != 0) = true) : cnE V = ([], (dsA V).2) := by unfold cnE; rw [h]; rfl
theorem cn_2 {V : List (List Ev)} (h : ((dsA V).2 != 0) = false) : cnE V = (cntG (dsA V).1 z4, 0) := by unfold cnE; rw [h]; rfl
theorem cn_ok {V : List (List Ev)} (h : ((cnE V).2 != 0) = false) : COk (cnE V).1 1280000 := by
 cases h1 : ((dsA V).2 != 0) with
 | true => rw [cn_1 h1] at h; rw [h1] at h; cases h
 | false =>
  rw [cn_2 h1]
  have h2 := cntG_ok (dsA V).1 z4 0 z4_ok
  have h3 := (dsA_ok (V := V)).1
  exact ⟨h2.1, fun c hc => ⟨(h2.2 c hc).1, by have := (h2.2 c hc).2; omega⟩⟩
theorem Grow.own {α : Type} {f : α → List Value} {e : TypeId} {z : Nat} {S0 S1 S2 : St} {l : List (Nat × Blk)} {av : Option Addr} {C : List α} (hz : ∀ x, (f x).length = z) (hl : HoldG S0 [S0] S1 l []) (hk : Keep S1 S2) (hg : Grow S1 S2 (gOf e z f (.slice av C.length C.length) C)) :
  ∃ fr, HoldG S0 [S0] S2 (l ++ fr) [] ∧ ∀ {T : St} {Ts : List St} {l2 : List (Nat × Blk)} {gs : List Gr}, HoldG S0 Ts T l2 gs → (∀ p, p ∈ fr → p ∈ l2) → LsOf e z f T (.slice av C.length C.length) C := by
 rcases hg with ⟨h1, _, h3⟩ | ⟨b, kin, h1, h2, h3, h4, _⟩
 ·have h3 : C.length = 0 := h3
  have hC : C = [] := List.length_eq_zero_iff.1 h3
  subst hC
  have h1 : (Value.slice av 0 0) = .slice none 0 0 := h1
  refine ⟨[], by rw [List.append_nil]; exact hl.call hk, fun _ _ => ?_⟩
  show LsOf e z f _ (.slice av 0 0) []
  rw [h1]
  exact LsOf.nil
 ·have h1 : (Value.slice av C.length C.length) = .slice (some ⟨b, 0, none⟩) C.length C.length := h1
  have h4 : S2.get b = some (.cells ((C.map f).flatten) e true true kin) := h4
  have ha := (hl.call hk).add hl.below hl.keep h2 h3 h4
  refine ⟨[(b, .cells ((C.map f).flatten) e true true kin)], ha.perm (List.perm_append_singleton ..).symm, fun {T Ts l2 gs} hT hm => ?_⟩
  rw [h1]
  have hb := hT.at_ b _ (hm _ (List.mem_cons_self ..))
  exact LsOf.row hz ⟨hb.2.2, true, kin, hb.1⟩ rfl
noncomputable def c24 : Code := Tryd.f24.body.getD .skip
theorem spec24 (aV : Option Addr) (cV : Nat) (V : List (List Ev)) (hF : Fresh S) (hG : Gl S) (hv : Vs S (.slice aV V.length cV) V) : CC Tryd.prog KK 24 [.slice aV V.length cV] S (fun v S' => Keep S S' ∧ ∃ av, v = tupV [.slice av (dsA V).1.length (dsA V).1.length, .int .i64 (dsA V).2] ∧ Grow S S' (gOf 72 5 Ds.cells (.slice av (dsA V).1.length (dsA V).1.length) (dsA V).1)) := by
 refine cc_enter (c := c24) (n := 16) Tryd.func24 rfl rfl rfl (by kernel_rfl) rfl rfl ?_
 have hl := Hold.start S
 refine xs (by kernel_rfl) ?_; iterate 2 refine rm rfl ?_
 refine re_end rfl ?_; refine xs (by kernel_rfl) ?_; refine rm rfl ?_
 refine re_callL hl rfl rfl rfl rfl rfl rfl rfl (spec39 aV cV V (hl.keep.3 hF) (hG.keep hl.keep) (hv.move (hl.since 0 rfl))) ?_; rintro v S1 hk1 hq hl; obtain ⟨w, rfl, hw⟩ := hq.is
 iterate 5 refine rm rfl ?_
 refine re_end rfl ?_; refine xp_seq rfl ?_; refine xs (by kernel_rfl) ?_; refine rm rfl ?_; refine rr rfl (rd_bin rfl rfl rfl rfl) ?_; refine re_end rfl ?_; refine xp_cond rfl rfl (fun h12 => ?_) (fun h12 => ?_)
 ·
  refine xs (by kernel_rfl) ?_; iterate 3 refine rm rfl ?_
  refine re_end rfl ?_; refine xp_ret rfl ?_
  refine thn_ret (done_ret (ress_tmp rfl (ress_tmp rfl rfl)) ⟨hl.keep, ⟨none, by rw [dsA_1 h12] <;> rfl, by rw [dsA_1 h12]; exact .inl ⟨rfl, rfl, rfl⟩⟩⟩)
 ·
  obtain ⟨bd, aS, aK, cS, cK, rfl, hks⟩ := hw h12
  have hk0 := hl.keep.1
  refine xp_skip rfl ?_; refine xs (by kernel_rfl) ?_; refine rm rfl ?_
  refine re_callL hl rfl rfl rfl rfl rfl rfl rfl (spec40 bd aV aS aK cV cS cK V _ _ (hl.keep.3 hF) (hG.keep hl.keep) hks) ?_; rintro v S2 hk2 ⟨av, rfl, hg⟩ hl
  iterate 2 refine rm rfl ?_
  refine re_end rfl ?_; refine xp_ret rfl ?_
  refine done_ret (ress_tmp rfl (ress_tmp rfl rfl)) ⟨hl.keep, ⟨av, by rw [dsA_2 h12] <;> rfl, by rw [dsA_2 h12]; exact Grow.base hg hk0⟩⟩
end Go.Proofs.YtlnenodplgpceaaDoor

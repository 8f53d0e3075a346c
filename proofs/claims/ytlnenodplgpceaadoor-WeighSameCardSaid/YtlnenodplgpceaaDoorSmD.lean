/-
  parallel: pairs, its iterator. parallel.Find. parallel: how many. dissonance: starts. dissonance: short, step. dissonance.chord. tactuskit: Zero, Mod, T. tactuskit: Plus, EndOf. transform: valid, Move, pitched. dissonance.passing. dissonance.turning. transform.pitched. slices.Clone of events. transform.chained.
-/
import Derived.Test.YtlnenodplgpceaaDoorSmC
namespace Go.Proofs.YtlnenodplgpceaaDoor
open Go.Cm Go
set_option maxRecDepth 100000
variable {S : St}
theorem prI_len (V : List (List Ev)) (L : List Sl) (n a b : Nat) : (prI V L n a b).length ≤ 1 := by
 cases h : decide ((kmE V L a b n).1 > 0) with
 | true => rw [prI_1 h]; exact Nat.le_refl _
 | false => rw [prI_2 h]; exact Nat.zero_le _
noncomputable def c37 : Code := Tryd.f37.body.getD .skip
theorem spec37 (m : Int) : CC Tryd.prog KK 37 [.int .i64 m] S (fun v S' => Keep S S' ∧ ∃ bp, v = .func (.func 48) #[] #[ptrTo bp 0] ∧ HoldG S [S] S' [(bp, .cells [.int .i64 m] 3 false true [])] []) := by
 refine cc_enter (c := c37) (n := 4) Tryd.func37 rfl rfl rfl (by kernel_rfl) rfl rfl ?_
 have hl := Hold.start S
 refine xs (by kernel_rfl) ?_; refine re_boxL hl rfl rfl rfl rfl rfl rfl ?_; intro B1 S1 hl; refine rm rfl ?_; refine re_end rfl ?_; refine xs (by kernel_rfl) ?_; refine rr rfl (rd_func rfl rfl rfl) ?_; refine rm rfl ?_; refine re_end rfl ?_; refine xp_ret rfl ?_
 refine done_ret (ress_tmp rfl rfl) ⟨hl.keep, ⟨B1, rfl, hl⟩⟩
noncomputable def c48 : Code := Tryd.f48.body.getD .skip
theorem spec48 {Sb Sm S : St} (z : Fp) (hz : Has 52 ⟨52, z.t, []⟩ [(7, ptrTo z.b7 0), (6, ptrTo z.b6 0), (4, ptrTo z.b4 0)]) {fo0 rest : List (Nat × Blk)} {ov0 : Value} {D0 : List Par} (hF : Fresh Sb) (hG : Gl Sb) (hs : SetAt Sm z.aV z.aS z.cV z.cS z.V z.L) (hn : z.n < z.L.length) (hD : D0.length ≤ 1900000) (hg : GB ov0 67 5 (((D0).map Par.cells).flatten) (D0).length fo0) (hl : HoldG Sb [Sm, Sb] S (z.l ov0 ++ (fo0 ++ rest)) []) : CC Tryd.prog KK 48 [.func (.yield z.lb) #[] #[], ptrTo z.bp 0] S (fun v S' => v = tupV [] ∧ ∃ ov fo, GB ov 67 5 (((D0 ++ prA z.V z.L z.n z.V.length 0).map Par.cells).flatten) (D0 ++ prA z.V z.L z.n z.V.length 0).length fo ∧ HoldG Sb [Sm, Sb] S' (z.l ov ++ (fo ++ rest)) []) := by
 refine cc_enter (c := c48) (n := 22) Tryd.func48 rfl rfl rfl (by kernel_rfl) rfl rfl ?_
 have hVn := hs.hn
 refine xs (by kernel_rfl) ?_; refine rr rfl (rl hl 5 rfl rfl (by kernel_rfl) rfl rfl) ?_; refine rm rfl ?_; refine re_end rfl ?_; refine xp_block rfl ?_
 -- LOOP
 refine xe_sub (L' := [(6, .int .i64 0), (5, .int .i64 (z.V.length : Int)), (0, .func (.yield z.lb) #[] #[]), (1, ptrTo z.bp 0)]) ⟨rfl, rfl, rfl, rfl, trivial⟩ ?_
 refine xp_loop rfl (fun m Le S' => ∃ (a : Nat) (ov : Value) (fo : List (Nat × Blk)) (D : List Par), a ≤ z.V.length ∧ m = z.V.length - a ∧ D.length ≤ D0.length + 8 * a ∧ D ++ prA z.V z.L z.n (z.V.length - a) a = D0 ++ prA z.V z.L z.n z.V.length 0 ∧ GB ov 67 5 (((D).map Par.cells).flatten) (D).length fo ∧ SubE [(6, .int .i64 (a : Int)), (5, .int .i64 (z.V.length : Int)), (0, .func (.yield z.lb) #[] #[]), (1, ptrTo z.bp 0)] Le ∧ HoldG Sb [Sm, Sb] S' (z.l ov ++ (fo ++ rest)) []) ?_ (m := z.V.length) ⟨0, ov0, fo0, D0, Nat.zero_le _, rfl, Nat.le_refl _, rfl, hg, ⟨rfl, rfl, rfl, rfl, trivial⟩, hl⟩
 clear hl; rintro m Le S' ⟨a, ov, fo, D, ha, rfl, hDl, hpr, hgD, hsub, hl⟩; refine xe_sub hsub ?_
 refine xs (by kernel_rfl) ?_; refine rr rfl (rd_bin rfl rfl rfl rfl) ?_; refine re_end rfl ?_; refine xp_seq rfl ?_; refine xp_cond rfl rfl (fun h7 => ?_) (fun h7 => ?_)
 ·
  have hlt : a < z.V.length := by have := of_decide_eq_true h7; omega
  rw [show z.V.length - a = (z.V.length - (a + 1)) + 1 by omega, prA] at hpr
  refine xp_skip rfl ?_; refine xp_seq rfl ?_; refine xp_block rfl ?_; refine xs (by kernel_rfl) ?_; iterate 2 refine rm rfl ?_
  refine re_end rfl ?_; refine xs (by kernel_rfl) ?_; refine rm rfl ?_; refine rr rfl (rd_bin rfl rfl rfl (i6 (by omega))) ?_; refine rm rfl ?_; refine re_end rfl ?_; refine xp_block rfl ?_
  -- LOOP
  refine xe_sub (L' := [(4, .int .i64 ((a + 1 : Nat) : Int)), (3, .int .i64 (a : Int)), (6, .int .i64 (a : Int)), (5, .int .i64 (z.V.length : Int)), (0, .func (.yield z.lb) #[] #[]), (1, ptrTo z.bp 0)]) ⟨rfl, rfl, rfl, rfl, rfl, rfl, trivial⟩ ?_
  refine xp_loop rfl (fun m Le S' => ∃ (b : Nat) (ov2 : Value) (fo2 : List (Nat × Blk)) (D2 : List Par), a + 1 ≤ b ∧ b ≤ z.V.length ∧ m = z.V.length - b ∧ D2.length ≤ D0.length + 8 * a + (b - a) ∧ D2 ++ prB z.V z.L z.n a (z.V.length - b) b = D ++ prB z.V z.L z.n a (z.V.length - (a + 1)) (a + 1) ∧ GB ov2 67 5 (((D2).map Par.cells).flatten) (D2).length fo2 ∧ SubE [(4, .int .i64 (b : Int)), (3, .int .i64 (a : Int)), (6, .int .i64 (a : Int)), (5, .int .i64 (z.V.length : Int)), (0, .func (.yield z.lb) #[] #[]), (1, ptrTo z.bp 0)] Le ∧ HoldG Sb [Sm, Sb] S' (z.l ov2 ++ (fo2 ++ rest)) []) ?_ (m := z.V.length - (a + 1)) ⟨a + 1, ov, fo, D, Nat.le_refl _, hlt, rfl, by omega, rfl, hgD, ⟨rfl, rfl, rfl, rfl, rfl, rfl, trivial⟩, hl⟩
  clear hl; rintro m Le S' ⟨b, ov2, fo2, D2, hb1, hb2, rfl, hD2, hpr2, hg2, hsub2, hl⟩; refine xe_sub hsub2 ?_
  refine xp_seq rfl ?_; refine xs (by kernel_rfl) ?_; refine rm rfl ?_; refine rr rfl (rl hl 5 rfl rfl (by kernel_rfl) rfl rfl) ?_; refine rr rfl (rd_bin rfl rfl rfl rfl) ?_; refine re_end rfl ?_; refine xp_cond rfl rfl (fun h13 => ?_) (fun h13 => ?_)
  ·
   have hlt2 : b < z.V.length := by have := of_decide_eq_true h13; omega
   rw [show z.V.length - b = (z.V.length - (b + 1)) + 1 by omega, prB] at hpr2
   refine xp_skip rfl ?_; refine xp_seq rfl ?_; refine xp_block rfl ?_; refine xs (by kernel_rfl) ?_; iterate 3 refine rm rfl ?_
   refine re_callT rfl rfl rfl rfl rfl rfl rfl (ct_mono (round_pr z hz hF hG hs hlt hlt2 hn (by omega) hg2 hl) ?_); rintro r S2 ⟨rfl, ov3, fo3, hg3, hl⟩
   refine rr rfl (rd_un rfl rfl rfl) ?_; refine re_end rfl ?_; refine xp_cond rfl rfl (fun h20 => ?_) (fun h20 => ?_)
   ·
    exact absurd h20 (by decide)
   ·
    refine xp_skip rfl ?_; refine xg (by kernel_rfl) ?_; refine rm rfl ?_; refine rr rfl (rd_bin rfl rfl rfl (i6 (by omega))) ?_; refine rm rfl ?_; refine re_end rfl ?_
    refine ⟨z.V.length - (b + 1), by omega, b + 1, ov3, fo3, D2 ++ prI z.V z.L z.n a b, by omega, by omega, rfl, ?_, by rw [List.append_assoc]; exact hpr2, hg3, ⟨rfl, rfl, rfl, rfl, rfl, rfl, trivial⟩, hl⟩
    have := prI_len z.V z.L z.n a b
    rw [List.length_append]
    omega
  ·
   refine xp_exit rfl ?_; refine xg (by kernel_rfl) ?_; refine rr rfl (rd_bin rfl rfl rfl (i6 (by omega))) ?_; refine rm rfl ?_; refine re_end rfl ?_
   have he : D2 = D ++ prB z.V z.L z.n a (z.V.length - (a + 1)) (a + 1) := by rw [← hpr2, show z.V.length - b = 0 by have := of_decide_eq_false h13; omega]; exact (List.append_nil _).symm
   exact ⟨z.V.length - (a + 1), by omega, a + 1, ov2, fo2, D2, by omega, rfl, by omega, by rw [he, List.append_assoc]; exact hpr, hg2, ⟨rfl, rfl, rfl, rfl, trivial⟩, hl⟩
 ·
  refine xp_exit rfl ?_
  have he : D = D0 ++ prA z.V z.L z.n z.V.length 0 := by rw [← hpr, show z.V.length - a = 0 by have := of_decide_eq_false h7; omega]; exact (List.append_nil _).symm
  exact ⟨[], rfl, rfl, ov, fo, he ▸ hgD, hl⟩
end Go.Proofs.YtlnenodplgpceaaDoor
namespace Go.Proofs.YtlnenodplgpceaaDoor
open Go.Cm Go
set_option maxRecDepth 100000
variable {S : St}
def fnG (V : List (List Ev)) (L : List Sl) : Nat → Nat → List Par
 | 0, _ => []
 | f + 1, n => prA V L n V.length 0 ++ fnG V L f (n + 1)
def fnE (V : List (List Ev)) : List Par × Int := bif (slsE V).2 != 0 then ([], (slsE V).2) else (fnG V (slsE V).1 (slsE V).1.length 0, 0)
theorem fn_1 {V : List (List Ev)} (h : ((slsE V).2 != 0) = true) : fnE V = ([], (slsE V).2) := by unfold fnE; rw [h]; rfl
theorem fn_2 {V : List (List Ev)} (h : ((slsE V).2 != 0) = false) : fnE V = (fnG V (slsE V).1 (slsE V).1.length 0, 0) := by unfold fnE; rw [h]; rfl
theorem prB_len (V : List (List Ev)) (L : List Sl) (n a : Nat) : ∀ f b, (prB V L n a f b).length ≤ f
 | 0, _ => Nat.le_refl _
 | f + 1, b => by
  have h1 := prI_len V L n a b
  have h2 := prB_len V L n a f (b + 1)
  rw [prB, List.length_append]
  omega
theorem prA_len (V : List (List Ev)) (L : List Sl) (n : Nat) (hV : V.length ≤ 8) : ∀ f a, (prA V L n f a).length ≤ 8 * f
 | 0, _ => Nat.le_refl _
 | f + 1, a => by
  have h1 := prB_len V L n a (V.length - (a + 1)) (a + 1)
  have h2 := prA_len V L n hV f (a + 1)
  rw [prA, List.length_append]
  omega
abbrev Pars := LsOf 67 5 Par.cells
theorem HoldG.joinT {S0 S1 S2 : St} {Ts : List St} {l r : List (Nat × Blk)} (h0 : HoldG S0 Ts S1 l []) (h1 : HoldG S1 [S1] S2 r []) : HoldG S0 Ts S2 (l ++ r) [] := by
 refine ⟨h0.keep.trans h1.keep, ?_, fun b x hx => ?_, fun T ht => (h0.rk T ht).trans h1.keep.rk, fun g hg => (List.not_mem_nil hg).elim⟩
 ·rw [List.map_append]
  refine List.nodup_append.2 ⟨h0.nd, h1.nd, fun a ha c hc => ?_⟩
  obtain ⟨⟨a, x⟩, ha1, rfl⟩ := List.mem_map.1 ha
  obtain ⟨⟨c, y⟩, hc1, rfl⟩ := List.mem_map.1 hc
  have e1 := (h0.at_ a x ha1).2.2
  have e2 := (h1.at_ c y hc1).2.1
  show a ≠ c
  omega
 ·rcases List.mem_append.1 hx with hx | hx
  ·obtain ⟨e1, e2, e3⟩ := h0.at_ b x hx
   exact ⟨(h1.keep.2 b e3).trans e1, e2, Nat.lt_of_lt_of_le e3 h1.keep.1⟩
  ·obtain ⟨e1, e2, e3⟩ := h1.at_ b x hx
   exact ⟨e1, Nat.le_trans h0.keep.1 e2, e3⟩
theorem mem_nth {α : Type} : ∀ {l : List α} {x : α}, x ∈ l → ∃ i, nth l i = some x
 | y :: l, x, h => by
  rcases List.mem_cons.1 h with rfl | h
  ·exact ⟨0, rfl⟩
  ·obtain ⟨i, hi⟩ := mem_nth h
   exact ⟨i + 1, hi⟩
theorem putB_keep {b : Nat} {x y : Blk} {p : Nat × Blk} : ∀ {l : List (Nat × Blk)} {i : Nat}, nth l i = some (b, x) → p ∈ l → p.1 ≠ b → p ∈ putB i y l
 | q :: l, 0, hi, hp, hne => by
  have e : q = (b, x) := Option.some.inj hi
  rcases List.mem_cons.1 hp with h | h
  ·rw [h, e] at hne; exact absurd rfl hne
  ·cases q; exact List.mem_cons_of_mem _ h
 | q :: l, i + 1, hi, hp, hne => by
  have hr : p ∈ l → p ∈ putB i y l := fun h => putB_keep (y := y) (l := l) (i := i) hi h hne
  rcases List.mem_cons.1 hp with h | h
  ·rw [h]; cases q; exact List.mem_cons_self
  ·cases q; exact List.mem_cons_of_mem _ (hr h)
theorem tm_all {S0 : St} {Ts : List St} : ∀ (ks : List Nat) {S : St} {l : List (Nat × Blk)}, ks.Nodup → HoldG S0 Ts S l [] → (∀ k, k ∈ ks → (k, Blk.defs false) ∈ l) → ∃ S2 l2, takeMarks (ks.map markOf) S = some S2 ∧ HoldG S0 Ts S2 l2 [] ∧ ∀ p, p ∈ l → p.1 ∉ ks → p ∈ l2
 | [], S, l, _, hl, _ => ⟨S, l, rfl, hl, fun p hp _ => hp⟩
 | k :: ks, S, l, hn, hl, hm => by
  obtain ⟨i, hi⟩ := mem_nth (hm k (List.mem_cons_self ..))
  have hg := hl.get i hi
  have hn2 := List.nodup_cons.1 hn
  have hl2 := hl.put hi rfl (.defs true)
  obtain ⟨S2, l2, h1, h2, h3⟩ := tm_all ks hn2.2 hl2 (fun j hj => putB_keep hi (hm j (List.mem_cons_of_mem _ hj)) (fun e => hn2.1 (e ▸ hj)))
  refine ⟨S2, l2, ?_, h2, fun p hp hne => h3 p (putB_keep hi hp (fun e => hne (e ▸ List.mem_cons_self ..))) (fun hk => hne (List.mem_cons_of_mem _ hk))⟩
  show takeMarks (markOf k :: ks.map markOf) S = _
  unfold markOf takeMarks
  rw [hg]
  exact h1
theorem permF {α : Type} (A B X C : List α) : (A ++ (B ++ (X ++ C))).Perm ((B ++ (A ++ C)) ++ X) := by
 classical
 rw [List.perm_iff_count]
 intro a
 simp only [List.count_append]
 omega
theorem permG {α : Type} (A B C F R : List α) : (A ++ (B ++ C) ++ (F ++ R)).Perm (B ++ (F ++ ((A ++ C) ++ R))) := by
 classical
 rw [List.perm_iff_count]
 intro a
 simp only [List.count_append]
 omega
theorem spec23 (a : Option Addr) (cap : Nat) (V : List (List Ev)) (hF : Fresh S) (hG : Gl S) (hv : Vs S (.slice a V.length cap) V) : CC Tryd.prog KK 23 [.slice a V.length cap] S (fun v S' => Keep S S' ∧ ∃ w, v = tupV [w, .int .i64 (fnE V).2] ∧ Pars S' w (fnE V).1) := by
 refine cc_enterM (c := c23) (n := 52) Tryd.func23 rfl rfl rfl (by kernel_rfl) rfl rfl ?_
 have hl := Hold.start S
 refine xdp_seq rfl (xd_of_xe ?_); refine xg (by kernel_rfl) ?_; iterate 2 refine rm rfl ?_
 refine re_end rfl ?_; refine xdp_seq rfl (xd_of_xe ?_); refine xg (by kernel_rfl) ?_; refine rm rfl ?_
 refine re_callL hl rfl rfl rfl rfl rfl rfl rfl (spec36 a cap V (hl.keep.3 hF) (hv.move (hl.since 0 rfl))) ?_; rintro v Sm hk1 ⟨w, rfl, hs1⟩ hl
 obtain ⟨aS, cS, rfl⟩ := Sls.is hs1
 have hl := hl.mark
 iterate 3 refine rm rfl ?_
 refine re_allocL hl rfl rfl rfl rfl rfl (z := [.slice none 0 0, .slice none 0 0]) (by kernel_rfl) ?_; intro B4 S4 hl; refine re_storeL hl 0 rfl rfl rfl rfl rfl rfl rfl (by kernel_rfl) rfl ?_; intro S1 hl; refine rm rfl ?_; refine re_end rfl ?_; refine xdp_seq rfl (xd_of_xe ?_); refine xs (by kernel_rfl) ?_; refine rm rfl ?_; refine rr rfl (rd_bin rfl rfl rfl rfl) ?_; refine re_end rfl ?_; refine xp_cond rfl rfl (fun h18 => ?_) (fun h18 => ?_)
 ·
  refine xs (by kernel_rfl) ?_; iterate 3 refine rm rfl ?_
  refine re_end rfl ?_; refine xp_ret rfl ?_
  exact ⟨_, _, rfl, ress_tmp rfl (ress_tmp rfl rfl), hl.keep, .slice none 0 0, by rw [fn_1 h18], by rw [fn_1 h18]; exact LsOf.nil⟩
 refine xp_skip rfl ?_
 obtain ⟨hn, hV⟩ := ac_ok (sls_e h18)
 have hset : SetAt Sm a aS cap cS V (slsE V).1 := ⟨hv.move hk1.rk, hs1, sls_wf, hn, hV, sls_len hn hV⟩
 have hLn := hset.hL
 refine xdp_seq rfl (xd_of_xe ?_); refine xg (by kernel_rfl) ?_; refine re_allocL hl rfl rfl rfl rfl rfl (z := [.slice none 0 0]) (by kernel_rfl) ?_; intro B6 S6 hl; refine re_end rfl ?_; refine xdp_seq rfl ?_; refine xdp_seq rfl (xd_of_xe ?_); refine xg (by kernel_rfl) ?_; refine rr rfl (rd_fieldAddr rfl rfl (fa Tryd.underlying90 az90 rfl)) ?_; refine rr rfl (rl hl 1 rfl rfl (by kernel_rfl) rfl rfl) ?_; refine rr rfl (rd_len rfl rfl (len_slice Tryd.underlying88)) ?_; refine rm rfl ?_; refine re_end rfl ?_; refine xdp_block rfl ?_
 refine xd_sub (L' := [(23, .int .i64 0), (22, .int .i64 ((slsE V).1.length : Int)), (6, ptrTo B6 0), (4, ptrTo B4 0), (3, .int .i64 0), (2, .slice none 0 0), (0, .slice a V.length cap)]) ⟨rfl, rfl, rfl, rfl, rfl, rfl, rfl, trivial⟩ ?_
 refine xdp_loop rfl (fun m Le S' ds => ∃ (n : Nat) (ov : Value) (fo rest : List (Nat × Blk)) (D : List Par) (ks : List Nat), n ≤ (slsE V).1.length ∧ m = (slsE V).1.length - n ∧ ds = ks.map markOf ∧ (∀ k, k ∈ ks → (k, Blk.defs false) ∈ rest) ∧ ks.Nodup ∧ D.length ≤ 64 * n ∧ D ++ fnG V (slsE V).1 ((slsE V).1.length - n) n = fnG V (slsE V).1 (slsE V).1.length 0 ∧ GB ov 67 5 (((D).map Par.cells).flatten) (D).length fo ∧ SubE [(23, .int .i64 (n : Int)), (22, .int .i64 ((slsE V).1.length : Int)), (6, ptrTo B6 0), (4, ptrTo B4 0), (3, .int .i64 0), (2, .slice none 0 0), (0, .slice a V.length cap)] Le ∧ HoldG S [Sm, S] S' ([(B6, Blk.cells [ov] 62 false true []), (B4, Blk.cells [.slice a V.length cap, .slice aS (slsE V).1.length cS] 90 false true [])] ++ (fo ++ rest)) []) ?_ (m := (slsE V).1.length) ⟨0, .slice none 0 0, [], [], [], [], Nat.zero_le _, rfl, rfl, fun k hk => (List.not_mem_nil hk).elim, List.nodup_nil, Nat.le_refl _, rfl, .inl ⟨rfl, rfl, rfl, rfl⟩, ⟨rfl, rfl, rfl, rfl, rfl, rfl, rfl, trivial⟩, hl⟩
 clear hl; rintro m Le Sh ds ⟨n, ov, fo, rest, D, ks, hnl, rfl, rfl, hks, hnd, hDl, hpr, hg, hsub, hl⟩; refine xd_sub hsub ?_
 refine xdp_seq rfl (xd_of_xe ?_); refine xg (by kernel_rfl) ?_; refine rr rfl (rd_bin rfl rfl rfl rfl) ?_; refine re_end rfl ?_; refine xdp_seq rfl (xd_of_xe ?_); refine xp_cond rfl rfl (fun h24 => ?_) (fun h24 => ?_)
 ·
  have hlt : n < (slsE V).1.length := by have := of_decide_eq_true h24; omega
  rw [show (slsE V).1.length - n = ((slsE V).1.length - (n + 1)) + 1 by omega, fnG] at hpr
  refine xp_skip rfl ?_; refine xdp_seq rfl ?_; refine xdp_block rfl ?_; refine xdp_seq rfl (xd_of_xe ?_); refine xg (by kernel_rfl) ?_; refine rm rfl ?_; refine re_allocL hl rfl rfl rfl rfl rfl (z := [.int .i64 0]) (by kernel_rfl) ?_; intro B7 S7 hl; refine re_storeL hl 0 rfl rfl rfl rfl rfl rfl rfl (by kernel_rfl) rfl ?_; intro S1 hl; refine re_end rfl ?_; refine xdp_seq rfl (xd_of_xe ?_); refine xg (by kernel_rfl) ?_; refine rm rfl ?_; refine rr rfl (rd_len rfl rfl (len_slice Tryd.underlying25)) ?_
  have hl : HoldG S [Sm, S] _ ([(B7, Blk.cells [.int .i64 (n : Int)] 3 false true [])] ++ ([(B6, Blk.cells [ov] 62 false true []), (B4, Blk.cells [.slice a V.length cap, .slice aS (slsE V).1.length cS] 90 false true [])] ++ (fo ++ rest))) [] := hl
  have hl0 := hl
  refine re_callL hl rfl rfl rfl rfl rfl rfl rfl (cc_mono (spec37 (V.length : Int)) fun v S' h => ⟨(by obtain ⟨_, _, _, h2⟩ := h; exact h2.keep), h⟩) ?_; rintro v S8 hk8 ⟨_, bp, rfl, hb⟩ hl
  have hl := HoldG.joinT hl0 hb
  refine re_end rfl ?_; refine xdp_block rfl (xd_range rfl rfl rfl (by kernel_rfl) ?_)
  intro t ht
  have hl := (hl.new (.defs false)).new (.loop .ready none 52 t (rgP rp23) (rgA rp23) (rgB rp23) S8.size)
  let z : Fp := ⟨S8.size + 1, S8.size, bp, B4, B6, B7, t, n, a, aS, cap, cS, V, (slsE V).1⟩
  have hl : HoldG S [Sm, S] _ ([(S8.size + 1, Blk.loop .ready none 52 t (rgP rp23) (rgA rp23) (rgB rp23) S8.size), (S8.size, Blk.defs false)] ++ ([(B7, Blk.cells [.int .i64 (n : Int)] 3 false true []), (B6, Blk.cells [ov] 62 false true []), (B4, Blk.cells [.slice a V.length cap, .slice aS (slsE V).1.length cS] 90 false true [])] ++ ((fo ++ rest) ++ [(bp, Blk.cells [.int .i64 (V.length : Int)] 3 false true [])]))) [] := hl
  have hl : HoldG S [Sm, S] _ (z.l ov ++ (fo ++ rest)) [] := hl.perm (permF _ _ _ _)
  refine ct_mono (ct_func (ce_of_cc (spec48 z (ht.sub (L' := [(7, ptrTo B7 0), (6, ptrTo B6 0), (4, ptrTo B4 0)]) ⟨rfl, rfl, rfl, trivial⟩) hF hG hset hlt (by omega) hg hl))) ?_
  rintro r S9 ⟨v, rfl, rfl, ov2, fo2, hg2, hl⟩
  have hks2 : S8.size ∉ ks := fun hm => by
   have := (hl0.at_ _ _ (List.mem_append.2 (.inr (List.mem_append.2 (.inr (List.mem_append.2 (.inr (hks _ hm)))))))).2.2
   have h3 := hk8.1
   omega
  refine ⟨_, _, _, _, _, _, _, _, hl.get 3 rfl, rfl, ?_⟩
  have hl := hl.put (k := 3) rfl rfl (.loop .exhausted none 52 t (rgP rp23) (rgA rp23) (rgB rp23) S8.size)
  refine xd_of_xe ?_; refine xg (by kernel_rfl) ?_; refine rr rfl (rd_bin rfl rfl rfl (i6 (by omega))) ?_; refine rm rfl ?_; refine re_end rfl ?_
  have hpl := prA_len V (slsE V).1 n hn V.length 0
  have hl : HoldG S [Sm, S] _ ([(B7, Blk.cells [.int .i64 (n : Int)] 3 false true [])] ++ ([(B6, Blk.cells [ov2] 62 false true []), (B4, Blk.cells [.slice a V.length cap, .slice aS (slsE V).1.length cS] 90 false true [])] ++ [(S8.size + 1, Blk.loop .exhausted none 52 t (rgP rp23) (rgA rp23) (rgB rp23) S8.size), (S8.size, Blk.defs false), (bp, Blk.cells [.int .i64 (V.length : Int)] 3 false true [])]) ++ (fo2 ++ rest)) [] := hl
  refine ⟨(slsE V).1.length - (n + 1), by omega, n + 1, ov2, fo2, _, D ++ prA V (slsE V).1 n V.length 0, S8.size :: ks, by omega, rfl, rfl, ?_, List.nodup_cons.2 ⟨hks2, hnd⟩, by rw [List.length_append]; omega, by rw [List.append_assoc]; exact hpr, hg2, ⟨rfl, rfl, rfl, rfl, rfl, rfl, rfl, trivial⟩, hl.perm (permG _ _ _ _ _)⟩
  intro k hk
  rcases List.mem_cons.1 hk with rfl | hk
  ·simp
  ·have := hks k hk
   simp [this]
 ·
  refine xp_exit rfl ?_; refine xdp_seq rfl (xd_of_xe ?_); refine xg (by kernel_rfl) ?_; refine rr rfl (rl hl 0 rfl rfl (by kernel_rfl) rfl rfl) ?_; iterate 2 refine rm rfl ?_
  refine re_end rfl ?_; refine xd_of_xe (xp_ret rfl ?_)
  have he : fnG V (slsE V).1 (slsE V).1.length 0 = D := by rw [← hpr, show (slsE V).1.length - n = 0 by have := of_decide_eq_false h24; omega]; exact List.append_nil _
  obtain ⟨S2, l2, ht, hl2, hk2⟩ := tm_all ks hnd hl (fun k hk => List.mem_append.2 (.inr (List.mem_append.2 (.inr (hks k hk)))))
  refine ⟨S2, _, ht, ress_tmp rfl (ress_tmp rfl rfl), hl2.keep, ov, by rw [fn_2 h18], ?_⟩
  rw [fn_2 h18, he]
  refine GB.ls (f := Par.cells) (fun _ => rfl) hg hl2 (fun p hp => hk2 p (List.mem_append.2 (.inr (List.mem_append.2 (.inl hp)))) ?_)
  intro hpk
  have e1 := (hl.at_ p.1 p.2 (List.mem_append.2 (.inr (List.mem_append.2 (.inl hp))))).1
  have e2 := (hl.at_ p.1 (.defs false) (List.mem_append.2 (.inr (List.mem_append.2 (.inr (hks _ hpk)))))).1
  rw [e1] at e2
  have e3 : p.2 = .defs false := Option.some.inj e2
  rcases hg with ⟨_, _, _, rfl⟩ | ⟨b, kin, _, _, rfl⟩
  ·cases hp
  ·rw [List.mem_singleton.1 hp] at e3; cases e3
end Go.Proofs.YtlnenodplgpceaaDoor
namespace Go.Proofs.YtlnenodplgpceaaDoor
open Go.Cm Go
set_option maxRecDepth 100000
variable {S : St}
theorem km_le (V : List (List Ev)) (L : List Sl) (a b n : Nat) : (kmE V L a b n).1 ≤ 3 := by
 unfold kmE
 cases kmB V L a b n <;> cases (pfE V L a b n).2 <;> cases tgB V L a b n <;> cases agB V L a b n <;> cases hdB V L a b n <;> first | exact (by decide : (0 : Int) ≤ 3) | exact (by decide : (1 : Int) ≤ 3) | exact (by decide : (2 : Int) ≤ 3) | exact (by decide : (3 : Int) ≤ 3)
theorem prI_k {V : List (List Ev)} {L : List Sl} {n a b : Nat} : ∀ p, p ∈ prI V L n a b → 1 ≤ p.k ∧ p.k ≤ 3 := by
 intro p hp
 cases h : decide ((kmE V L a b n).1 > 0) with
 | true =>
  rw [prI_1 h] at hp
  rw [List.mem_singleton.1 hp]
  have h1 := of_decide_eq_true h
  have h2 := km_le V L a b n
  show 1 ≤ (kmE V L a b n).1 ∧ (kmE V L a b n).1 ≤ 3
  omega
 | false => rw [prI_2 h] at hp; exact (List.not_mem_nil hp).elim
theorem prB_k {V : List (List Ev)} {L : List Sl} {n a : Nat} : ∀ f b p, p ∈ prB V L n a f b → 1 ≤ p.k ∧ p.k ≤ 3
 | 0, _, _, h => (List.not_mem_nil h).elim
 | f + 1, b, p, h => by
  rw [prB] at h
  rcases List.mem_append.1 h with h | h
  ·exact prI_k p h
  ·exact prB_k f (b + 1) p h
theorem prA_k {V : List (List Ev)} {L : List Sl} {n : Nat} : ∀ f a p, p ∈ prA V L n f a → 1 ≤ p.k ∧ p.k ≤ 3
 | 0, _, _, h => (List.not_mem_nil h).elim
 | f + 1, a, p, h => by
  rw [prA] at h
  rcases List.mem_append.1 h with h | h
  ·exact prB_k _ _ p h
  ·exact prA_k f (a + 1) p h
theorem fnG_k {V : List (List Ev)} {L : List Sl} : ∀ f n p, p ∈ fnG V L f n → 1 ≤ p.k ∧ p.k ≤ 3
 | 0, _, _, h => (List.not_mem_nil h).elim
 | f + 1, n, p, h => by
  rw [fnG] at h
  rcases List.mem_append.1 h with h | h
  ·exact prA_k _ _ p h
  ·exact fnG_k f (n + 1) p h
theorem fnE_k {V : List (List Ev)} (p : Par) (h : p ∈ (fnE V).1) : 1 ≤ p.k ∧ p.k ≤ 3 := by
 cases h1 : ((slsE V).2 != 0) with
 | true => rw [fn_1 h1] at h; exact (List.not_mem_nil h).elim
 | false => rw [fn_2 h1] at h; exact fnG_k _ _ p h
theorem fnG_len {V : List (List Ev)} {L : List Sl} (hV : V.length ≤ 8) : ∀ f n, (fnG V L f n).length ≤ 64 * f
 | 0, _ => Nat.le_refl _
 | f + 1, n => by
  have h1 := prA_len V L n hV V.length 0
  have h2 := fnG_len (L := L) hV f (n + 1)
  rw [fnG, List.length_append]
  omega
theorem fnE_len {V : List (List Ev)} : (fnE V).1.length ≤ 1280000 := by
 cases h1 : ((slsE V).2 != 0) with
 | true => rw [fn_1 h1]; exact Nat.zero_le _
 | false =>
  obtain ⟨hn, hV⟩ := ac_ok (sls_e h1)
  have h2 := sls_len hn hV
  have h3 := fnG_len (L := (slsE V).1) hn (slsE V).1.length 0
  rw [fn_2 h1]
  show (fnG _ _ _ _).length ≤ _
  omega
def c4 (c0 c1 c2 c3 : Int) : List Value := [.int .i64 c0, .int .i64 c1, .int .i64 c2, .int .i64 c3]
def s4 (k c1 c2 c3 : Int) : Int := bif k == 1 then c1 else bif k == 2 then c2 else c3
def u4 (k j x c : Int) : Int := bif k == j then x else c
theorem nth4 {k c0 c1 c2 c3 : Int} (h1 : 1 ≤ k) (h2 : k ≤ 3) : nth (c4 c0 c1 c2 c3) (0 + k.toNat * 1) = some (.int .i64 (s4 k c1 c2 c3)) := by
 obtain rfl | rfl | rfl : k = 1 ∨ k = 2 ∨ k = 3 := by omega
 all_goals rfl
theorem set4 {k c0 c1 c2 c3 x : Int} (h1 : 1 ≤ k) (h2 : k ≤ 3) : setN (0 + k.toNat * 1) (cellsL (.int .i64 x)) (c4 c0 c1 c2 c3) = some (c4 c0 (u4 k 1 x c1) (u4 k 2 x c2) (u4 k 3 x c3)) := by
 obtain rfl | rfl | rfl : k = 1 ∨ k = 2 ∨ k = 3 := by omega
 all_goals rfl
theorem s4_bd {k c1 c2 c3 m : Int} (h1 : 0 ≤ c1 ∧ c1 ≤ m) (h2 : 0 ≤ c2 ∧ c2 ≤ m) (h3 : 0 ≤ c3 ∧ c3 ≤ m) : 0 ≤ s4 k c1 c2 c3 ∧ s4 k c1 c2 c3 ≤ m := by
 unfold s4
 cases k == 1 <;> cases k == 2 <;> assumption
theorem u4_bd {k j x c m : Int} (hx : 0 ≤ x ∧ x ≤ m + 1) (hc : 0 ≤ c ∧ c ≤ m) : 0 ≤ u4 k j x c ∧ u4 k j x c ≤ m + 1 := by
 unfold u4
 cases k == j with
 | true => exact hx
 | false => exact ⟨hc.1, Int.le_trans hc.2 (by omega)⟩
theorem slice_arr {P : Program} {t e : TypeId} {b n z : Nat} {S : St} {c : List Value} {e2 : TypeId} {own : Bool} {kin : List Nat} (hu : P.underlying t = some (.array n e)) (hz : szOf P e = some z) (hg : S.get b = some (.cells c e2 false own kin)) : sliceV P t (ptrTo b 0) none none none S = some (.slice (some ⟨b, 0, none⟩) n n) := by
 unfold sliceV
 have hb3 : bounds3 n n none none none = some (0, n, n) := by
  unfold bounds3 sliceBnd
  rfl
 have hp : plainRow S b = true := by unfold plainRow; rw [hg]
 show (match P.underlying t with
  | some .string => _
  | some (.slice elem) => _
  | some (.array n elem) => _
  | _ => _) = _
 simp only [hu, hz, hb3, hp, cond_true, Nat.zero_mul, Nat.add_zero, Nat.sub_zero, ptrTo]
noncomputable def c12 : Code := Tryd.f12.body.getD .skip
theorem spec12 (a : Option Addr) (cap : Nat) (V : List (List Ev)) (hF : Fresh S) (hG : Gl S) (hv : Vs S (.slice a V.length cap) V) : CC Tryd.prog KK 12 [.slice a V.length cap] S (fun v S' => Keep S S' ∧ (((fnE V).2 ≠ 0 ∧ v = tupV [.slice none 0 0, .int .i64 (fnE V).2]) ∨ ((fnE V).2 = 0 ∧ ∃ b c1 c2 c3, v = tupV [.slice (some ⟨b, 0, none⟩) 4 4, .int .i64 0] ∧ S.size ≤ b ∧ b < S'.size ∧ S'.get b = some (.cells (c4 ((fnE V).1.length : Int) c1 c2 c3) 65 false true [])))) := by
 refine cc_enter (c := c12) (n := 35) Tryd.func12 rfl rfl rfl (by kernel_rfl) rfl rfl ?_
 have hl := Hold.start S
 refine xs (by kernel_rfl) ?_; iterate 2 refine rm rfl ?_
 refine re_end rfl ?_; refine xs (by kernel_rfl) ?_; refine rm rfl ?_
 refine re_callL hl rfl rfl rfl rfl rfl rfl rfl (spec23 a cap V (hl.keep.3 hF) (hG.keep hl.keep) (hv.move (hl.since 0 rfl))) ?_; rintro v Sm hk1 ⟨w, rfl, hw⟩ hl; have hl := hl.mark; obtain ⟨aw, cw, rfl⟩ := LsOf.is hw
 iterate 5 refine rm rfl ?_
 refine re_end rfl ?_; refine xp_seq rfl ?_; refine xs (by kernel_rfl) ?_; refine rm rfl ?_; refine rr rfl (rd_bin rfl rfl rfl rfl) ?_; refine re_end rfl ?_; refine xp_cond rfl rfl (fun h15 => ?_) (fun h15 => ?_)
 ·
  refine xs (by kernel_rfl) ?_; iterate 3 refine rm rfl ?_
  refine re_end rfl ?_; refine xp_ret rfl ?_
  refine thn_ret (done_ret (ress_tmp rfl (ress_tmp rfl rfl)) ⟨hl.keep, .inl ⟨by simpa using h15, rfl⟩⟩)
 ·
  refine xp_skip rfl ?_; refine xs (by kernel_rfl) ?_; refine re_allocL hl rfl rfl rfl rfl rfl (z := c4 0 0 0 0) (by kernel_rfl) ?_; intro B6 S6 hl; refine re_end rfl ?_; refine xp_seq rfl ?_; refine xs (by kernel_rfl) ?_; refine rm rfl ?_; refine rr rfl (rd_len rfl rfl (len_slice Tryd.underlying62)) ?_; refine rm rfl ?_; refine re_end rfl ?_; refine xp_block rfl ?_
  -- LOOP
  have hlen := fnE_len (V := V)
  refine xe_sub (L' := [(19, .int .i64 0), (18, .int .i64 ((fnE V).1.length : Int)), (17, .slice aw (fnE V).1.length cw), (6, ptrTo B6 0), (3, .int .i64 0), (2, .slice none 0 0)]) ⟨rfl, rfl, rfl, rfl, rfl, rfl, trivial⟩ ?_
  refine xp_loop rfl (fun m Le S' => ∃ (i : Nat) (c1 c2 c3 : Int), i ≤ (fnE V).1.length ∧ m = (fnE V).1.length - i ∧ (0 ≤ c1 ∧ c1 ≤ i) ∧ (0 ≤ c2 ∧ c2 ≤ i) ∧ (0 ≤ c3 ∧ c3 ≤ i) ∧ SubE [(19, .int .i64 (i : Int)), (18, .int .i64 ((fnE V).1.length : Int)), (17, .slice aw (fnE V).1.length cw), (6, ptrTo B6 0), (3, .int .i64 0), (2, .slice none 0 0)] Le ∧ HoldG S [Sm, S] S' [(B6, .cells (c4 (i : Int) c1 c2 c3) 65 false true [])] []) ?_ (m := (fnE V).1.length) ⟨0, 0, 0, 0, Nat.zero_le _, rfl, ⟨Int.le_refl _, Int.le_refl _⟩, ⟨Int.le_refl _, Int.le_refl _⟩, ⟨Int.le_refl _, Int.le_refl _⟩, ⟨rfl, rfl, rfl, rfl, rfl, rfl, trivial⟩, hl⟩
  clear hl; rintro m Le S' ⟨i, c1, c2, c3, hi, rfl, hc1, hc2, hc3, hsub, hl⟩; refine xe_sub hsub ?_
  refine xs (by kernel_rfl) ?_; refine rr rfl (rd_bin rfl rfl rfl rfl) ?_; refine re_end rfl ?_; refine xp_seq rfl ?_; refine xp_cond rfl rfl (fun h20 => ?_) (fun h20 => ?_)
  ·
   have hlt : i < (fnE V).1.length := by have := of_decide_eq_true h20; omega
   obtain ⟨x, hx⟩ := nth_some hlt
   obtain ⟨b1, o1, cs1, ha, _, hrow, htk⟩ := hw.elem hx
   obtain ⟨hk1, hk3⟩ := fnE_k x (nth_mem hx)
   have hsb := s4_bd (k := x.k) hc1 hc2 hc3
   refine xp_skip rfl ?_; refine xp_seq rfl ?_; refine xp_block rfl ?_; refine xs (by kernel_rfl) ?_; refine rr rfl (rd_indexAddr rfl rfl rfl (indexAddr_sl (z := 5) ha Tryd.underlying62 (by kernel_rfl) ⟨by omega, by first | omega | (simp only [List.length_cons]; omega)⟩)) ?_; refine rr rfl (rd_load rfl rfl (loadN_row (z := 5) (by kernel_rfl) (by kernel_rfl) (row_move (hl.since 0 rfl) hrow) htk)) ?_; refine re_allocL hl rfl rfl rfl rfl rfl (z := [.int .i64 0, .int .i64 0, .int .i64 0, .int .i64 0, .int .i64 0]) (by kernel_rfl) ?_; intro B8 S8 hl
   refine re_storeL hl 0 rfl rfl rfl rfl rfl rfl rfl (by kernel_rfl) rfl ?_; intro S1 hl; refine re_end rfl ?_; refine xs (by kernel_rfl) ?_; refine rr rfl (rd_indexAddr rfl rfl rfl (indexAddr_array (b := B6) (o := 0) (len := 4) (z := 1) Tryd.underlying65 (by kernel_rfl) ⟨by omega, by omega⟩)) ?_; refine rr rfl (rd_load rfl rfl (load1_of (v := .int .i64 (i : Int)) (by kernel_rfl) (hl.get 1 rfl) rfl)) ?_; refine rr rfl (rd_bin rfl rfl rfl (i6 (by omega))) ?_
   refine rr rfl (rd_indexAddr rfl rfl rfl (indexAddr_array (b := B6) (o := 0) (len := 4) (z := 1) Tryd.underlying65 (by kernel_rfl) ⟨by omega, by omega⟩)) ?_; refine re_storeL hl 1 rfl rfl rfl rfl rfl rfl rfl (by kernel_rfl) (c' := c4 ((i : Int) + 1) c1 c2 c3) rfl ?_; intro S1 hl; refine re_end rfl ?_; refine xg (by kernel_rfl) ?_; refine rr rfl (rd_fieldAddr rfl rfl (fa Tryd.underlying67 az67 rfl)) ?_; refine rr rfl (rl hl 0 rfl rfl (by kernel_rfl) rfl rfl) ?_
   refine rr rfl (rd_indexAddr rfl rfl rfl (indexAddr_array (b := B6) (o := 0) (len := 4) (z := 1) Tryd.underlying65 (by kernel_rfl) ⟨by omega, by omega⟩)) ?_; refine rr rfl (rd_load rfl rfl (load1_of (by kernel_rfl) (hl.get 1 rfl) (nth4 hk1 hk3))) ?_; refine rr rfl (rd_bin rfl rfl rfl (i6 (by omega))) ?_; refine rr rfl (rd_indexAddr rfl rfl rfl (indexAddr_array (b := B6) (o := 0) (len := 4) (z := 1) Tryd.underlying65 (by kernel_rfl) ⟨by omega, by omega⟩)) ?_; refine re_storeL hl 1 rfl rfl rfl rfl rfl rfl rfl (by kernel_rfl) (set4 hk1 hk3) ?_; intro S1 hl; refine re_end rfl ?_
   refine xg (by kernel_rfl) ?_; refine rr rfl (rd_bin rfl rfl rfl (i6 (by omega))) ?_; refine rm rfl ?_; refine re_end rfl ?_
   exact ⟨(fnE V).1.length - (i + 1), by omega, i + 1, _, _, _, by omega, rfl, u4_bd (by omega) hc1, u4_bd (by omega) hc2, u4_bd (by omega) hc3, ⟨rfl, rfl, rfl, rfl, rfl, rfl, trivial⟩, hl.tail⟩
  ·
   have hie : i = (fnE V).1.length := by have := of_decide_eq_false h20; omega
   refine xp_exit rfl ?_; refine xs (by kernel_rfl) ?_; refine rr rfl (rd_slice rfl rfl rfl rfl rfl (slice_arr (z := 1) Tryd.underlying65 (by kernel_rfl) (hl.get 0 rfl))) ?_; iterate 2 refine rm rfl ?_
   refine re_end rfl ?_; refine xp_ret rfl ?_
   refine done_ret (ress_tmp rfl (ress_tmp rfl rfl)) ⟨hl.keep, .inr ⟨by simpa using h15, B6, c1, c2, c3, rfl, (hl.at_ _ _ (List.mem_cons_self ..)).2.1, (hl.at_ _ _ (List.mem_cons_self ..)).2.2, by rw [← hie]; exact hl.get 0 rfl⟩⟩
end Go.Proofs.YtlnenodplgpceaaDoor
namespace Go.Proofs.YtlnenodplgpceaaDoor
open Go.Cm Go
set_option maxRecDepth 100000
variable {S : St}
structure DSet (S : St) (b : Nat) (aV aS : Option Addr) (cV cS : Nat) (kv : Value) (V : List (List Ev)) (L : List Sl) : Prop where
 lt : b < S.size
 get : S.get b = some (.cells [.slice aV V.length cV, .slice aS L.length cS, kv] 118 false true [])
 set : SetAt S aV aS cV cS V L
section
variable {S T : St} {b : Nat} {aV aS : Option Addr} {cV cS : Nat} {kv : Value} {V : List (List Ev)} {L : List Sl}
theorem DSet.at_ (h : DSet S b aV aS cV cS kv V L) (hk : Keep S T) : T.get b = some (.cells [.slice aV V.length cV, .slice aS L.length cS, kv] 118 false true []) := (hk.2 b h.lt).trans h.get
theorem DSet.keep (h : DSet S b aV aS cV cS kv V L) (hk : Keep S T) : DSet T b aV aS cV cS kv V L := ⟨Nat.lt_of_lt_of_le h.lt hk.1, h.at_ hk, h.set.move hk.rk⟩
end
def stB (V : List (List Ev)) (L : List Sl) (n v : Nat) : Bool := decide (evI L n v ≥ 0) && decide ((evAt V v (evI L n v)).at_ = atL L n)
def shB (x : Ev) : Bool := decide ((cmpE x.dur ⟨1, 1⟩).1 ≤ 0)
noncomputable def c68 : Code := Tryd.f68.body.getD .skip
theorem spec68 (bd : Nat) (aV aS : Option Addr) (cV cS : Nat) (kv : Value) (V : List (List Ev)) (L : List Sl) (n vv : Nat) (hd : DSet S bd aV aS cV cS kv V L) (hvv : vv < V.length) (hnn : n < L.length) : CC Tryd.prog KK 68 [ptrTo bd 0, .int .i64 (n : Int), .int .i64 (vv : Int)] S (fun v S' => Keep S S' ∧ v = .bool (stB V L n vv)) := by
 refine cc_enter (c := c68) (n := 43) Tryd.func68 rfl rfl rfl (by kernel_rfl) rfl rfl ?_
 have hl := Hold.start S
 obtain ⟨s, hsn⟩ := nth_some hnn
 obtain ⟨x, hx⟩ := nth_some hvv
 have hs := hd.set
 obtain ⟨b1, o1, cs1, aw, cw, ha, _, hrow, htk, hiv⟩ := hs.sl.elem hsn
 obtain ⟨hwl, hwi⟩ := hs.wf n s hsn
 obtain ⟨i, hi⟩ := nth_some (l := s.ev) (i := vv) (by omega)
 obtain ⟨b2, o2, cs2, ha2, _, hrow2, htk2⟩ := hiv.elem hi
 obtain ⟨b3, o3, cs3, ax, cx, ha3, _, hrow3, htk3, hvx⟩ := hs.vs.elem hx
 have hix := hwi vv i x hi hx
 have hei := evI_at hsn hi
 have hal := atL_at hsn
 refine xs (by kernel_rfl) ?_; refine rm rfl ?_; refine re_end rfl ?_; refine xs (by kernel_rfl) ?_; refine rm rfl ?_; refine rr rfl (rd_nilCheck rfl rfl rfl) ?_; refine rr rfl (rd_fieldAddr rfl rfl (fa Tryd.underlying118 az118 rfl)) ?_; refine rr rfl (rd_load rfl rfl (load1_of (by kernel_rfl) (hd.at_ hl.keep) rfl)) ?_; refine rm rfl ?_; refine rr rfl (rd_indexAddr rfl rfl rfl (indexAddr_sl (z := 5) ha Tryd.underlying88 (by kernel_rfl) ⟨by omega, by omega⟩)) ?_; refine rr rfl (rd_fieldAddr rfl rfl (fa Tryd.underlying131 az131 rfl)) ?_
 refine rr rfl (rd_load rfl rfl (load1_row (by kernel_rfl) (row_move (hl.since 0 rfl) hrow) (tk_nth (j := 4) htk rfl))) ?_; refine rm rfl ?_; refine rr rfl (rd_indexAddr rfl rfl rfl (indexAddr_sl (z := 1) ha2 Tryd.underlying22 (by kernel_rfl) ⟨by omega, by omega⟩)) ?_; refine rr rfl (rd_load rfl rfl (load1_row (by kernel_rfl) (row_move (hl.since 0 rfl) hrow2) (tk_nth (j := 0) htk2 rfl))) ?_; refine rm rfl ?_; refine re_end rfl ?_; refine xe_sub (L' := [(7, .int .i64 i), (0, ptrTo bd 0), (1, .int .i64 (n : Int)), (2, .int .i64 (vv : Int))]) ⟨rfl, rfl, rfl, rfl, trivial⟩ ?_
 refine xp_seq rfl (xe_toE hl 6 (.bool (stB V L n vv)) ?_ rfl ?_)
 ·
  refine xp_draw (idx := [0, 1, 2, 3, 4, 5, 6, 7, 8, 9, 10, 11, 12, 13, 14, 15, 16, 17, 18, 19, 20, 21, 22, 23, 24]) rfl (by kernel_rfl) (by kernel_rfl) ?_; refine pm rfl ?_; refine pr rfl (rd_bin rfl rfl rfl rfl) ?_; refine pm rfl ?_; refine rp_bool (d := 21) rfl (fun h21 => ?_) (fun h21 => ?_)
  ·
   have h0 : 0 ≤ i := of_decide_eq_true h21
   obtain ⟨y, hy⟩ := nth_some (l := x) (i := i.toNat) (by omega)
   obtain ⟨b4, o4, cs4, ha4, _, hrow4, htk4⟩ := hvx.elem hy
   have hey := evAt_at hx hy
   refine pm rfl ?_; refine pr rfl (rd_nilCheck rfl rfl rfl) ?_; refine pr rfl (rd_fieldAddr rfl rfl (fa Tryd.underlying118 az118 rfl)) ?_; refine pk rfl (rd_load rfl rfl (load1_of (by kernel_rfl) (hd.at_ hl.keep) rfl)) ?_; refine pm rfl ?_; refine pr rfl (rd_indexAddr rfl rfl rfl (indexAddr_sl (z := 1) ha3 Tryd.underlying25 (by kernel_rfl) ⟨by omega, by omega⟩)) ?_; refine pk rfl (rd_load rfl rfl (load1_row (by kernel_rfl) (row_move (hl.since 0 rfl) hrow3) htk3)) ?_; refine pm rfl ?_
   refine pr rfl (rd_indexAddr rfl rfl rfl (indexAddr_sl (z := 10) ha4 Tryd.underlying23 (by kernel_rfl) ⟨by omega, by omega⟩)) ?_; refine pr rfl (rd_fieldAddr rfl rfl (fa Tryd.underlying39 az39 rfl)) ?_; refine pk rfl (rd_load rfl rfl (loadN_row (z := 2) (l := y.at_.cells) (by kernel_rfl) (by kernel_rfl) (row_move (hl.since 0 rfl) hrow4) (tk_part (j := 0) (l2 := y.at_.cells) htk4 rfl))) ?_; refine pm rfl ?_; refine pr rfl (rd_nilCheck rfl rfl rfl) ?_; refine pr rfl (rd_fieldAddr rfl rfl (fa Tryd.underlying118 az118 rfl)) ?_
   refine pk rfl (rd_load rfl rfl (load1_of (by kernel_rfl) (hd.at_ hl.keep) rfl)) ?_; refine pm rfl ?_; refine pr rfl (rd_indexAddr rfl rfl rfl (indexAddr_sl (z := 5) ha Tryd.underlying88 (by kernel_rfl) ⟨by omega, by omega⟩)) ?_; refine pr rfl (rd_fieldAddr rfl rfl (fa Tryd.underlying131 az131 rfl)) ?_; refine pk rfl (rd_load rfl rfl (loadN_row (z := 2) (l := s.at_.cells) (by kernel_rfl) (by kernel_rfl) (row_move (hl.since 0 rfl) hrow) (tk_part (j := 0) (l2 := s.at_.cells) htk rfl))) ?_; refine pr rfl (rd_bin rfl rfl rfl (isTime _ _ y.at_ s.at_)) ?_; iterate 2 refine pm rfl ?_
   refine rp_end rfl ?_
   exact ⟨rfl, bl (by unfold stB; rw [hei, h21, hey, hal]; rfl), by repeat (first | exact subL_refl _ | refine subL_skip rfl ?_), hl⟩
  ·
   iterate 20 refine pz rfl ?_
   iterate 2 refine pm rfl ?_
   refine rp_end rfl ?_
   exact ⟨rfl, bl (by unfold stB; rw [hei, h21]; rfl), by repeat (first | exact subL_refl _ | refine subL_skip rfl ?_), hl⟩
 intro S1 hl
 refine xp_ret rfl ?_
 refine done_ret (ress_tmp rfl rfl) ⟨hl.keep, rfl⟩
end Go.Proofs.YtlnenodplgpceaaDoor
namespace Go.Proofs.YtlnenodplgpceaaDoor
open Go.Cm Go
set_option maxRecDepth 100000
variable {S : St}
def lenV (V : List (List Ev)) (v : Nat) : Int := (((nth V v).getD []).length : Int)
def spB (V : List (List Ev)) (v : Nat) (i : Int) : Bool := ((decide (i < 0) || decide (i + 1 ≥ lenV V v)) || (evAt V v i).rest) || (evAt V v (i + 1)).rest
def btS (V : List (List Ev)) (v : Nat) (i : Int) : Int := (btwE (evAt V v i).p (evAt V v (i + 1)).p).1.st
def spT (V : List (List Ev)) (v : Nat) (i : Int) : Bool := (btS V v i == 1) || (btS V v i == -1)
def stpE (V : List (List Ev)) (v : Nat) (i : Int) : Int := bif spB V v i then 0 else bif spT V v i then btS V v i else 0
theorem stp_1 {V : List (List Ev)} {v : Nat} {i : Int} (h : spB V v i = true) : stpE V v i = 0 := by unfold stpE; rw [h]; rfl
theorem stp_2 {V : List (List Ev)} {v : Nat} {i : Int} (h : spB V v i = false) (h2 : spT V v i = true) : stpE V v i = btS V v i := by unfold stpE; rw [h, h2]; rfl
theorem stp_3 {V : List (List Ev)} {v : Nat} {i : Int} (h : spB V v i = false) (h2 : spT V v i = false) : stpE V v i = 0 := by unfold stpE; rw [h, h2]; rfl
theorem lenV_at {V : List (List Ev)} {v : Nat} {x : List Ev} (h : nth V v = some x) : lenV V v = (x.length : Int) := by unfold lenV; rw [h]; rfl
theorem spB_ok {V : List (List Ev)} {v : Nat} {i : Int} {x : List Ev} (hx : nth V v = some x) (h : spB V v i = false) : 0 ≤ i ∧ i + 1 < (x.length : Int) := by
 unfold spB at h
 rw [lenV_at hx] at h
 simp at h
 omega
noncomputable def c83 : Code := Tryd.f83.body.getD .skip
theorem spec83 (bd : Nat) (aV aS : Option Addr) (cV cS : Nat) (kv : Value) (V : List (List Ev)) (L : List Sl) (pn ph pk9 i : Int) (mv : Nat) (hd : DSet S bd aV aS cV cS kv V L) (hvv : mv < V.length) (h0 : 0 ≤ i) (hil : i < lenV V mv) : CC Tryd.prog KK 83 [ptrTo bd 0, aggL [.int .i64 pn, .int .i64 (mv : Int), .int .i64 ph, .int .i64 i, .int .i64 pk9]] S (fun v S' => Keep S S' ∧ v = .bool (shB (evAt V mv i))) := by
 refine cc_enter (c := c83) (n := 27) Tryd.func83 rfl rfl rfl (by kernel_rfl) rfl rfl ?_
 have hl := Hold.start S
 obtain ⟨x, hx⟩ := nth_some hvv
 have hs := hd.set
 obtain ⟨b3, o3, cs3, ax, cx, ha3, _, hrow3, htk3, hvx⟩ := hs.vs.elem hx
 have hlx := lenV_at hx
 rw [hlx] at hil
 obtain ⟨y, hy⟩ := nth_some (l := x) (i := i.toNat) (by omega)
 obtain ⟨b4, o4, cs4, ha4, _, hrow4, htk4⟩ := hvx.elem hy
 have hey := evAt_at hx hy
 refine xs (by kernel_rfl) ?_; refine re_boxL hl rfl rfl rfl rfl rfl rfl ?_; intro B3 S3 hl; refine rm rfl ?_; refine re_end rfl ?_; refine xp_seq rfl ?_; refine xp_draw (idx := [0, 1, 2, 3, 4, 5, 6, 7, 8, 9, 10, 11, 12, 13, 14, 15, 16, 17, 18, 19]) rfl (by kernel_rfl) (by kernel_rfl) ?_; refine pm rfl ?_; refine pr rfl (rd_nilCheck rfl rfl rfl) ?_; refine pr rfl (rd_fieldAddr rfl rfl (fa Tryd.underlying118 az118 rfl)) ?_; refine pk rfl (rd_load rfl rfl (load1_of (by kernel_rfl) (hd.at_ hl.keep) rfl)) ?_; refine pr rfl (rd_fieldAddr rfl rfl (fa Tryd.underlying154 az154 rfl)) ?_
 refine pk rfl (rl hl 0 rfl rfl (by kernel_rfl) rfl rfl) ?_; refine pr rfl (rd_indexAddr rfl rfl rfl (indexAddr_sl (z := 1) ha3 Tryd.underlying25 (by kernel_rfl) ⟨by omega, by omega⟩)) ?_; refine pk rfl (rd_load rfl rfl (load1_row (by kernel_rfl) (row_move (hl.since 0 rfl) hrow3) htk3)) ?_; refine pr rfl (rd_fieldAddr rfl rfl (fa Tryd.underlying154 az154 rfl)) ?_; refine pk rfl (rl hl 0 rfl rfl (by kernel_rfl) rfl rfl) ?_; refine pr rfl (rd_indexAddr rfl rfl rfl (indexAddr_sl (z := 10) ha4 Tryd.underlying23 (by kernel_rfl) ⟨by omega, by omega⟩)) ?_
 refine pr rfl (rd_fieldAddr rfl rfl (fa Tryd.underlying39 az39 rfl)) ?_; refine pk rfl (rd_load rfl rfl (loadN_row (z := 2) (l := y.dur.cells) (by kernel_rfl) (by kernel_rfl) (row_move (hl.since 0 rfl) hrow4) (tk_part (j := 2) (l2 := y.dur.cells) htk4 rfl))) ?_; refine pr rfl (rd_build rfl rfl (v := aggL [.int .i64 1, .int .i64 1]) (by rfl)) ?_
 refine rp_callL hl rfl rfl rfl rfl rfl rfl rfl (spec86 y.dur ⟨1, 1⟩) ?_; rintro v S1 hk1 rfl hl; refine ⟨stays_all (by kernel_rfl), ?_⟩
 iterate 5 refine pm rfl ?_
 refine rp_end rfl ?_; refine xs (by kernel_rfl) ?_; refine rm rfl ?_; refine rr rfl (rd_bin rfl rfl rfl rfl) ?_; refine rm rfl ?_; refine re_end rfl ?_; refine xp_ret rfl ?_
 refine done_ret (ress_tmp rfl rfl) ⟨hl.keep, by rw [hey] <;> rfl⟩
noncomputable def c82 : Code := Tryd.f82.body.getD .skip
theorem spec82 (bd : Nat) (aV aS : Option Addr) (cV cS : Nat) (kv : Value) (V : List (List Ev)) (L : List Sl) (vv : Nat) (i : Int) (hF : Fresh S) (hG : Gl S) (hd : DSet S bd aV aS cV cS kv V L) (hvv : vv < V.length) (hi1 : -10 ≤ i) (hi2 : i ≤ 10000) : CC Tryd.prog KK 82 [ptrTo bd 0, .int .i64 (vv : Int), .int .i64 i] S (fun v S' => Keep S S' ∧ v = .int .i64 (stpE V vv i)) := by
 refine cc_enter (c := c82) (n := 88) Tryd.func82 rfl rfl rfl (by kernel_rfl) rfl rfl ?_
 have hl := Hold.start S
 obtain ⟨x, hx⟩ := nth_some hvv
 have hs := hd.set
 obtain ⟨b3, o3, cs3, ax, cx, ha3, _, hrow3, htk3, hvx⟩ := hs.vs.elem hx
 have hlx := lenV_at hx
 have hxl := hs.hV x (nth_mem hx)
 refine xs (by kernel_rfl) ?_; refine rm rfl ?_; refine re_end rfl ?_; refine xp_seq rfl ?_; refine xp_seq rfl (xe_toE hl 50 (.bool (spB V vv i)) ?_ rfl ?_)
 ·
  refine xg (by kernel_rfl) ?_; refine rm rfl ?_; refine rr rfl (rd_bin rfl rfl rfl rfl) ?_; refine rm rfl ?_; refine re_bool (d := 11) rfl (fun h11 => ?_) (fun h11 => ?_)
  ·
   iterate 11 refine rz rfl ?_
   iterate 2 refine rm rfl ?_
   iterate 11 refine rz rfl ?_
   iterate 2 refine rm rfl ?_
   iterate 12 refine rz rfl ?_
   refine rm rfl ?_; refine re_end rfl ?_
   exact ⟨rfl, bl (by unfold spB; rw [h11]; rfl), by repeat (first | exact subL_refl _ | refine subL_skip rfl ?_), hl⟩
  ·
   refine rm rfl ?_; refine rr rfl (rd_bin rfl rfl rfl (i6 (by omega))) ?_; refine rm rfl ?_; refine rr rfl (rd_nilCheck rfl rfl rfl) ?_; refine rr rfl (rd_fieldAddr rfl rfl (fa Tryd.underlying118 az118 rfl)) ?_; refine rr rfl (rd_load rfl rfl (load1_of (by kernel_rfl) (hd.at_ hl.keep) rfl)) ?_; refine rm rfl ?_; refine rr rfl (rd_indexAddr rfl rfl rfl (indexAddr_sl (z := 1) ha3 Tryd.underlying25 (by kernel_rfl) ⟨by omega, by omega⟩)) ?_; refine rr rfl (rd_load rfl rfl (load1_row (by kernel_rfl) (row_move (hl.since 0 rfl) hrow3) htk3)) ?_
   refine rr rfl (rd_len rfl rfl (len_slice Tryd.underlying23)) ?_; refine rr rfl (rd_bin rfl rfl rfl rfl) ?_; iterate 2 refine rm rfl ?_
   refine re_bool (d := 24) rfl (fun h24 => ?_) (fun h24 => ?_)
   ·
    iterate 11 refine rz rfl ?_
    iterate 2 refine rm rfl ?_
    iterate 12 refine rz rfl ?_
    refine rm rfl ?_; refine re_end rfl ?_
    exact ⟨rfl, bl (by unfold spB; rw [h11, hlx, h24]; rfl), by repeat (first | exact subL_refl _ | refine subL_skip rfl ?_), hl⟩
   ·
    have hi0 : 0 ≤ i := by have := of_decide_eq_false h11; omega
    have hi3 : i + 1 < (x.length : Int) := by have := of_decide_eq_false h24; omega
    obtain ⟨y, hy⟩ := nth_some (l := x) (i := i.toNat) (by omega)
    obtain ⟨b4, o4, cs4, ha4, _, hrow4, htk4⟩ := hvx.elem hy
    have hey := evAt_at hx hy
    refine rm rfl ?_; refine rr rfl (rd_nilCheck rfl rfl rfl) ?_; refine rr rfl (rd_fieldAddr rfl rfl (fa Tryd.underlying118 az118 rfl)) ?_; refine rr rfl (rd_load rfl rfl (load1_of (by kernel_rfl) (hd.at_ hl.keep) rfl)) ?_; refine rm rfl ?_; refine rr rfl (rd_indexAddr rfl rfl rfl (indexAddr_sl (z := 1) ha3 Tryd.underlying25 (by kernel_rfl) ⟨by omega, by omega⟩)) ?_; refine rr rfl (rd_load rfl rfl (load1_row (by kernel_rfl) (row_move (hl.since 0 rfl) hrow3) htk3)) ?_; refine rm rfl ?_
    refine rr rfl (rd_indexAddr rfl rfl rfl (indexAddr_sl (z := 10) ha4 Tryd.underlying23 (by kernel_rfl) ⟨by omega, by omega⟩)) ?_; refine rr rfl (rd_fieldAddr rfl rfl (fa Tryd.underlying39 az39 rfl)) ?_; refine rr rfl (rd_load rfl rfl (load1_row (by kernel_rfl) (row_move (hl.since 0 rfl) hrow4) (tk_nth (j := 7) htk4 rfl))) ?_; iterate 2 refine rm rfl ?_
    refine re_bool (d := 37) rfl (fun h37 => ?_) (fun h37 => ?_)
    ·
     iterate 12 refine rz rfl ?_
     refine rm rfl ?_; refine re_end rfl ?_
     exact ⟨rfl, bl (by unfold spB; rw [h11, hlx, h24, hey, h37]; rfl), by repeat (first | exact subL_refl _ | refine subL_skip rfl ?_), hl⟩
    ·
     obtain ⟨w, hw⟩ := nth_some (l := x) (i := (i + 1).toNat) (by omega)
     obtain ⟨b5, o5, cs5, ha5, _, hrow5, htk5⟩ := hvx.elem hw
     have hew := evAt_at hx hw
     refine rm rfl ?_; refine rr rfl (rd_nilCheck rfl rfl rfl) ?_; refine rr rfl (rd_fieldAddr rfl rfl (fa Tryd.underlying118 az118 rfl)) ?_; refine rr rfl (rd_load rfl rfl (load1_of (by kernel_rfl) (hd.at_ hl.keep) rfl)) ?_; refine rm rfl ?_; refine rr rfl (rd_indexAddr rfl rfl rfl (indexAddr_sl (z := 1) ha3 Tryd.underlying25 (by kernel_rfl) ⟨by omega, by omega⟩)) ?_; refine rr rfl (rd_load rfl rfl (load1_row (by kernel_rfl) (row_move (hl.since 0 rfl) hrow3) htk3)) ?_; refine rm rfl ?_; refine rr rfl (rd_bin rfl rfl rfl (i6 (by omega))) ?_
     refine rr rfl (rd_indexAddr rfl rfl rfl (indexAddr_sl (z := 10) ha5 Tryd.underlying23 (by kernel_rfl) ⟨by omega, by omega⟩)) ?_; refine rr rfl (rd_fieldAddr rfl rfl (fa Tryd.underlying39 az39 rfl)) ?_; refine rr rfl (rd_load rfl rfl (load1_row (by kernel_rfl) (row_move (hl.since 0 rfl) hrow5) (tk_nth (j := 7) htk5 rfl))) ?_; refine rm rfl ?_; refine re_end rfl ?_
     exact ⟨rfl, bl (by unfold spB; rw [h11, hlx, h24, hey, h37, hew]; rfl), by repeat (first | exact subL_refl _ | refine subL_skip rfl ?_), hl⟩
 intro S1 hl
 refine xp_cond rfl rfl (fun h50 => ?_) (fun h50 => ?_)
 ·
  refine xs (by kernel_rfl) ?_; refine rm rfl ?_; refine re_end rfl ?_; refine xp_ret rfl ?_
  refine thn_ret (done_ret (ress_tmp rfl rfl) ⟨hl.keep, by rw [stp_1 h50] <;> rfl⟩)
 ·
  obtain ⟨hi0, hi3⟩ := spB_ok hx h50
  obtain ⟨y, hy⟩ := nth_some (l := x) (i := i.toNat) (by omega)
  obtain ⟨b4, o4, cs4, ha4, _, hrow4, htk4⟩ := hvx.elem hy
  have hey := evAt_at hx hy
  obtain ⟨w, hw⟩ := nth_some (l := x) (i := (i + 1).toNat) (by omega)
  obtain ⟨b5, o5, cs5, ha5, _, hrow5, htk5⟩ := hvx.elem hw
  have hew := evAt_at hx hw
  refine xp_skip rfl ?_; refine xp_seq rfl ?_; refine xp_draw (idx := [0, 1, 2, 3, 4, 5, 6, 7, 8, 9, 10, 11, 12, 13, 14, 15, 16, 17, 18, 19, 20, 21, 22, 27, 23, 24, 25, 26, 28, 29]) rfl (by kernel_rfl) (by kernel_rfl) ?_; refine pm rfl ?_; refine pr rfl (rd_nilCheck rfl rfl rfl) ?_; refine pr rfl (rd_fieldAddr rfl rfl (fa Tryd.underlying118 az118 rfl)) ?_; refine pk rfl (rd_load rfl rfl (load1_of (by kernel_rfl) (hd.at_ hl.keep) rfl)) ?_; refine pm rfl ?_; refine pr rfl (rd_indexAddr rfl rfl rfl (indexAddr_sl (z := 1) ha3 Tryd.underlying25 (by kernel_rfl) ⟨by omega, by omega⟩)) ?_
  refine pk rfl (rd_load rfl rfl (load1_row (by kernel_rfl) (row_move (hl.since 0 rfl) hrow3) htk3)) ?_; refine pm rfl ?_; refine pr rfl (rd_indexAddr rfl rfl rfl (indexAddr_sl (z := 10) ha4 Tryd.underlying23 (by kernel_rfl) ⟨by omega, by omega⟩)) ?_; refine pr rfl (rd_fieldAddr rfl rfl (fa Tryd.underlying39 az39 rfl)) ?_; refine pk rfl (rd_load rfl rfl (loadN_row (z := 3) (l := y.p.cells) (by kernel_rfl) (by kernel_rfl) (row_move (hl.since 0 rfl) hrow4) (tk_part (j := 4) (l2 := y.p.cells) htk4 rfl))) ?_; refine pm rfl ?_; refine pr rfl (rd_nilCheck rfl rfl rfl) ?_
  refine pr rfl (rd_fieldAddr rfl rfl (fa Tryd.underlying118 az118 rfl)) ?_; refine pk rfl (rd_load rfl rfl (load1_of (by kernel_rfl) (hd.at_ hl.keep) rfl)) ?_; refine pm rfl ?_; refine pr rfl (rd_indexAddr rfl rfl rfl (indexAddr_sl (z := 1) ha3 Tryd.underlying25 (by kernel_rfl) ⟨by omega, by omega⟩)) ?_; refine pk rfl (rd_load rfl rfl (load1_row (by kernel_rfl) (row_move (hl.since 0 rfl) hrow3) htk3)) ?_; refine pm rfl ?_; refine pr rfl (rd_bin rfl rfl rfl (i6 (by omega))) ?_
  refine pr rfl (rd_indexAddr rfl rfl rfl (indexAddr_sl (z := 10) ha5 Tryd.underlying23 (by kernel_rfl) ⟨by omega, by omega⟩)) ?_; refine pr rfl (rd_fieldAddr rfl rfl (fa Tryd.underlying39 az39 rfl)) ?_; refine pk rfl (rd_load rfl rfl (loadN_row (z := 3) (l := w.p.cells) (by kernel_rfl) (by kernel_rfl) (row_move (hl.since 0 rfl) hrow5) (tk_part (j := 4) (l2 := w.p.cells) htk5 rfl))) ?_; refine rp_allocL hF hl rfl rfl rfl rfl rfl (z := [.int .i64 0, .int .i64 0]) (by kernel_rfl) ?_; intro B7 S7 hl
  refine rp_callL hl rfl rfl rfl rfl rfl rfl rfl (spec87 y.p w.p (hl.keep.3 hF) (hG.keep hl.keep)) ?_; rintro v S1 hk1 rfl hl; refine ⟨by repeat (first | exact trivial | refine stays_left ?_ | (refine ⟨by first | exact stays_load rfl rfl (load1_of (by kernel_rfl) (hd.at_ hl.keep) rfl) (same_atom (by first | exact atom_int _ _ | exact atom_bool _ | exact atom_slice _ _ _)) rfl | exact stays_load rfl rfl (load1_row (by kernel_rfl) (row_move (hl.since 0 rfl) hrow3) htk3) (same_atom (atom_slice _ _ _)) rfl | exact stays_load rfl rfl (loadN_row (z := 3) (l := y.p.cells) (by kernel_rfl) (by kernel_rfl) (row_move (hl.since 0 rfl) hrow4) (tk_part (j := 4) (l2 := y.p.cells) htk4 rfl)) (same_agg rfl (by repeat (first | exact atoms_nil | refine atoms_cons (atom_int _ _) ?_ | refine atoms_cons (atom_bool _) ?_ | refine atoms_cons (atom_slice _ _ _) ?_ | refine atoms_cons (atom_string _) ?_))) rfl | exact stays_load rfl rfl (loadN_row (z := 3) (l := w.p.cells) (by kernel_rfl) (by kernel_rfl) (row_move (hl.since 0 rfl) hrow5) (tk_part (j := 4) (l2 := w.p.cells) htk5 rfl)) (same_agg rfl (by repeat (first | exact atoms_nil | refine atoms_cons (atom_int _ _) ?_ | refine atoms_cons (atom_bool _) ?_ | refine atoms_cons (atom_slice _ _ _) ?_ | refine atoms_cons (atom_string _) ?_))) rfl | exact stays_new rfl (hl.get 0 rfl) (sameL_atoms _ _ (by simp) (by repeat (first | exact atoms_nil | refine atoms_cons (atom_int _ _) ?_ | refine atoms_cons (atom_bool _) ?_ | refine atoms_cons (atom_slice _ _ _) ?_ | refine atoms_cons (atom_string _) ?_))) | exact stays_load rfl rfl (loadN_of (z := 2) (by kernel_rfl) (by kernel_rfl) (hl.get 0 rfl) rfl) (same_agg rfl (by repeat (first | exact atoms_nil | refine atoms_cons (atom_int _ _) ?_ | refine atoms_cons (atom_bool _) ?_ | refine atoms_cons (atom_slice _ _ _) ?_ | refine atoms_cons (atom_string _) ?_))) rfl | exact stays_load rfl rfl (load1_of (by kernel_rfl) (hl.get 0 rfl) rfl) (same_atom (by first | exact atom_int _ _ | exact atom_bool _ | exact atom_slice _ _ _)) rfl | exact stays_no (by dsimp only; decide +kernel), ?_⟩)), ?_⟩
  iterate 3 refine pm rfl ?_
  refine rp_storeL hl 0 rfl rfl rfl rfl rfl rfl rfl (by kernel_rfl) rfl ?_; intro S1 hl; refine ⟨stays_all (by kernel_rfl), ?_⟩
  refine pm rfl ?_; refine rp_end rfl ?_; refine xp_seq rfl ?_; refine xp_seq rfl (xe_toE hl 85 (.bool (spT V vv i)) ?_ rfl ?_)
  ·
   refine xg (by kernel_rfl) ?_; refine rr rfl (rd_fieldAddr rfl rfl (fa Tryd.underlying148 az148 rfl)) ?_; refine rr rfl (rl hl 0 rfl rfl (by kernel_rfl) rfl rfl) ?_; refine rr rfl (rd_bin rfl rfl rfl rfl) ?_; refine rm rfl ?_; refine re_bool (d := 81) rfl (fun h81 => ?_) (fun h81 => ?_)
   ·
    iterate 3 refine rz rfl ?_
    refine rm rfl ?_; refine re_end rfl ?_
    exact ⟨rfl, bl (by unfold spT btS; rw [hey, hew, h81]; rfl), by repeat (first | exact subL_refl _ | refine subL_skip rfl ?_), hl⟩
   ·
    refine rr rfl (rd_fieldAddr rfl rfl (fa Tryd.underlying148 az148 rfl)) ?_; refine rr rfl (rl hl 0 rfl rfl (by kernel_rfl) rfl rfl) ?_; refine rr rfl (rd_bin rfl rfl rfl rfl) ?_; refine rm rfl ?_; refine re_end rfl ?_
    exact ⟨rfl, bl (by unfold spT btS; rw [hey, hew, h81]; rfl), by repeat (first | exact subL_refl _ | refine subL_skip rfl ?_), hl⟩
  intro S1 hl
  refine xp_cond rfl rfl (fun h85 => ?_) (fun h85 => ?_)
  ·
   refine xs (by kernel_rfl) ?_; refine rr rfl (rd_fieldAddr rfl rfl (fa Tryd.underlying148 az148 rfl)) ?_; refine rr rfl (rl hl 0 rfl rfl (by kernel_rfl) rfl rfl) ?_; refine rm rfl ?_; refine re_end rfl ?_; refine xp_ret rfl ?_
   refine thn_ret (done_ret (ress_tmp rfl rfl) ⟨hl.keep, by rw [stp_2 h50 h85]; unfold btS; rw [hey, hew] <;> rfl⟩)
  ·
   refine xp_skip rfl ?_; refine xs (by kernel_rfl) ?_; refine rm rfl ?_; refine re_end rfl ?_; refine xp_ret rfl ?_
   refine done_ret (ress_tmp rfl rfl) ⟨hl.keep, by rw [stp_3 h50 h85] <;> rfl⟩
end Go.Proofs.YtlnenodplgpceaaDoor
namespace Go.Proofs.YtlnenodplgpceaaDoor
open Go.Cm Go
set_option maxRecDepth 100000
variable {S : St}
def chB (V : List (List Ev)) (L : List Sl) (n v : Nat) : Bool := decide (evI L n v ≥ 0) && !(evAt V v (evI L n v)).rest
def chI (V : List (List Ev)) (L : List Sl) (n : Nat) : Nat → Nat → List (Int × Pt)
 | 0, _ => []
 | f + 1, v => (bif chB V L n v then [((v : Int), (evAt V v (evI L n v)).p)] else []) ++ chI V L n f (v + 1)
def chE (V : List (List Ev)) (L : List Sl) (n : Nat) : List (Int × Pt) := chI V L n V.length 0
theorem ch_1 {V : List (List Ev)} {L : List Sl} {n f v : Nat} (h : chB V L n v = true) : chI V L n (f + 1) v = ((v : Int), (evAt V v (evI L n v)).p) :: chI V L n f (v + 1) := by rw [chI, h]; rfl
theorem ch_2 {V : List (List Ev)} {L : List Sl} {n f v : Nat} (h : chB V L n v = false) : chI V L n (f + 1) v = chI V L n f (v + 1) := by rw [chI, h]; rfl
abbrev ic (i : Int) : List Value := [Value.int .i64 i]
noncomputable def c53 : Code := Tryd.f53.body.getD .skip
theorem spec53 (bd : Nat) (aV aS : Option Addr) (cV cS : Nat) (kv : Value) (V : List (List Ev)) (L : List Sl) (n : Nat) (hd : DSet S bd aV aS cV cS kv V L) (hnn : n < L.length) : CC Tryd.prog KK 53 [ptrTo bd 0, .int .i64 (n : Int)] S (fun v S' => Keep S S' ∧ ∃ w1 w2, v = tupV [w1, w2] ∧ Ints S' w1 ((chE V L n).map (·.1)) ∧ Pts S' w2 ((chE V L n).map (·.2))) := by
 refine cc_enter (c := c53) (n := 61) Tryd.func53 rfl rfl rfl (by kernel_rfl) rfl rfl ?_
 have hl := Hold.start S
 obtain ⟨s, hsn⟩ := nth_some hnn
 have hs := hd.set
 obtain ⟨b1, o1, cs1, aw, cw, ha, _, hrow, htk, hiv⟩ := hs.sl.elem hsn
 obtain ⟨hwl, hwi⟩ := hs.wf n s hsn
 have hVn := hs.hn
 refine xs (by kernel_rfl) ?_; iterate 2 refine rm rfl ?_
 refine re_end rfl ?_; refine xs (by kernel_rfl) ?_; refine rm rfl ?_; refine re_end rfl ?_; refine xs (by kernel_rfl) ?_; refine rm rfl ?_; refine re_end rfl ?_; refine xp_seq rfl ?_; refine xs (by kernel_rfl) ?_; refine rm rfl ?_; refine rr rfl (rd_nilCheck rfl rfl rfl) ?_; refine rr rfl (rd_fieldAddr rfl rfl (fa Tryd.underlying118 az118 rfl)) ?_; refine rr rfl (rd_load rfl rfl (load1_of (by kernel_rfl) (hd.at_ hl.keep) rfl)) ?_; refine rm rfl ?_; refine rr rfl (rd_indexAddr rfl rfl rfl (indexAddr_sl (z := 5) ha Tryd.underlying88 (by kernel_rfl) ⟨by omega, by omega⟩)) ?_
 refine rr rfl (rd_fieldAddr rfl rfl (fa Tryd.underlying131 az131 rfl)) ?_; refine rr rfl (rd_load rfl rfl (load1_row (by kernel_rfl) (row_move (hl.since 0 rfl) hrow) (tk_nth (j := 4) htk rfl))) ?_; refine rr rfl (rd_len rfl rfl (len_slice Tryd.underlying22)) ?_; refine rm rfl ?_; refine re_end rfl ?_; refine xp_block rfl ?_
 -- LOOP
 have hl := hl.addG (g := gOf 3 1 ic (.slice none 0 0) []) (.inl ⟨rfl, rfl, rfl⟩)
 have hl := hl.addG (g := gOf 37 3 Pt.cells (.slice none 0 0) []) (.inl ⟨rfl, rfl, rfl⟩)
 refine xe_sub (L' := [(19, .int .i64 0), (18, .int .i64 (s.ev.length : Int)), (17, .slice aw s.ev.length cw), (7, .slice none (([] : List Pt)).length (([] : List Pt)).length), (6, .slice none (([] : List Int)).length (([] : List Int)).length), (5, .slice none 0 0), (4, .slice none 0 0), (0, ptrTo bd 0)]) ⟨rfl, rfl, rfl, rfl, rfl, rfl, rfl, rfl, trivial⟩ ?_
 refine xp_loop rfl (fun m Le S' => ∃ (j : Nat) (W : List Int) (P : List Pt) (a1 a2 : Option Addr), j ≤ V.length ∧ m = V.length - j ∧ W.length ≤ j ∧ P.length ≤ j ∧ W ++ (chI V L n (V.length - j) j).map (·.1) = (chE V L n).map (·.1) ∧ P ++ (chI V L n (V.length - j) j).map (·.2) = (chE V L n).map (·.2) ∧ SubE [(19, .int .i64 (j : Int)), (18, .int .i64 (s.ev.length : Int)), (17, .slice aw s.ev.length cw), (7, .slice a2 (P).length (P).length), (6, .slice a1 (W).length (W).length), (5, .slice none 0 0), (4, .slice none 0 0), (0, ptrTo bd 0)] Le ∧ HoldG S [S] S' [] [gOf 37 3 Pt.cells (.slice a2 (P).length (P).length) (P), gOf 3 1 ic (.slice a1 (W).length (W).length) (W)]) ?_ (m := V.length) ⟨0, [], [], none, none, Nat.zero_le _, rfl, Nat.le_refl _, Nat.le_refl _, rfl, rfl, ⟨rfl, rfl, rfl, rfl, rfl, rfl, rfl, rfl, trivial⟩, hl⟩
 clear hl; rintro m Le S' ⟨j, W, P, a1, a2, hj, rfl, hW, hP, hp1, hp2, hsub, hl⟩; refine xe_sub hsub ?_
 refine xs (by kernel_rfl) ?_; refine rr rfl (rd_bin rfl rfl rfl rfl) ?_; refine re_end rfl ?_; refine xp_seq rfl ?_; refine xp_cond rfl rfl (fun h20 => ?_) (fun h20 => ?_)
 ·
  have hlt : j < V.length := by have := of_decide_eq_true h20; omega
  obtain ⟨x, hx⟩ := nth_some hlt
  obtain ⟨i, hi⟩ := nth_some (l := s.ev) (i := j) (by omega)
  obtain ⟨b2, o2, cs2, ha2, _, hrow2, htk2⟩ := hiv.elem hi
  obtain ⟨b3, o3, cs3, ax, cx, ha3, _, hrow3, htk3, hvx⟩ := hs.vs.elem hx
  have hix := hwi j i x hi hx
  have hei := evI_at hsn hi
  rw [show V.length - j = (V.length - (j + 1)) + 1 by omega] at hp1 hp2
  refine xp_skip rfl ?_; refine xp_seq rfl ?_; refine xp_block rfl ?_; refine xs (by kernel_rfl) ?_; refine rm rfl ?_; refine rr rfl (rd_indexAddr rfl rfl rfl (indexAddr_sl (z := 1) ha2 Tryd.underlying22 (by kernel_rfl) ⟨by omega, by omega⟩)) ?_; refine rr rfl (rd_load rfl rfl (load1_row (by kernel_rfl) (row_move (hl.since 0 rfl) hrow2) (tk_nth (j := 0) htk2 rfl))) ?_; iterate 2 refine rm rfl ?_
  refine re_end rfl ?_; refine xp_seq rfl (xe_toE hl 39 (.bool (chB V L n j)) ?_ rfl ?_)
  ·
   refine xg (by kernel_rfl) ?_; refine rm rfl ?_; refine rr rfl (rd_bin rfl rfl rfl rfl) ?_; refine rm rfl ?_; refine re_bool (d := 26) rfl (fun h26 => ?_) (fun h26 => ?_)
   ·
    have h0 : 0 ≤ i := of_decide_eq_true h26
    obtain ⟨y, hy⟩ := nth_some (l := x) (i := i.toNat) (by omega)
    obtain ⟨b4, o4, cs4, ha4, _, hrow4, htk4⟩ := hvx.elem hy
    have hey := evAt_at hx hy
    refine rm rfl ?_; refine rr rfl (rd_nilCheck rfl rfl rfl) ?_; refine rr rfl (rd_fieldAddr rfl rfl (fa Tryd.underlying118 az118 rfl)) ?_; refine rr rfl (rd_load rfl rfl (load1_of (by kernel_rfl) (hd.at_ hl.keep) rfl)) ?_; refine rm rfl ?_; refine rr rfl (rd_indexAddr rfl rfl rfl (indexAddr_sl (z := 1) ha3 Tryd.underlying25 (by kernel_rfl) ⟨by omega, by omega⟩)) ?_; refine rr rfl (rd_load rfl rfl (load1_row (by kernel_rfl) (row_move (hl.since 0 rfl) hrow3) htk3)) ?_; refine rm rfl ?_
    refine rr rfl (rd_indexAddr rfl rfl rfl (indexAddr_sl (z := 10) ha4 Tryd.underlying23 (by kernel_rfl) ⟨by omega, by omega⟩)) ?_; refine rr rfl (rd_fieldAddr rfl rfl (fa Tryd.underlying39 az39 rfl)) ?_; refine rr rfl (rd_load rfl rfl (load1_row (by kernel_rfl) (row_move (hl.since 0 rfl) hrow4) (tk_nth (j := 7) htk4 rfl))) ?_; refine rr rfl (rd_un rfl rfl rfl) ?_; refine rm rfl ?_; refine re_end rfl ?_
    exact ⟨rfl, bl (by unfold chB; rw [hei, h26, hey]; rfl), by repeat (first | exact subL_refl _ | refine subL_skip rfl ?_), hl⟩
   ·
    iterate 12 refine rz rfl ?_
    refine rm rfl ?_; refine re_end rfl ?_
    exact ⟨rfl, bl (by unfold chB; rw [hei, h26]; rfl), by repeat (first | exact subL_refl _ | refine subL_skip rfl ?_), hl⟩
  intro S1 hl
  refine xp_cond rfl rfl (fun h39 => ?_) (fun h39 => ?_)
  ·
   have h0 : 0 ≤ i := by
    cases hd0 : decide (i ≥ 0) with
    | true => exact of_decide_eq_true hd0
    | false => unfold chB at h39; rw [hei, hd0] at h39; cases h39
   obtain ⟨y, hy⟩ := nth_some (l := x) (i := i.toNat) (by omega)
   obtain ⟨b4, o4, cs4, ha4, _, hrow4, htk4⟩ := hvx.elem hy
   have hey := evAt_at hx hy
   rw [ch_1 h39, hei, hey] at hp1 hp2
   refine xs (by kernel_rfl) ?_; iterate 2 refine rm rfl ?_
   refine re_buildSliceR hl rfl rfl rfl rfl rfl Tryd.underlying22 rfl (c := ic (j : Int)) (by kernel_rfl) ?_; intro B42 S1 hr42 hl; refine re_appendG hl 1 rfl rfl (show ([37, 3] : List TypeId).Nodup by decide) rfl rfl rfl rfl rfl rfl rfl Tryd.underlying22 Tryd.underlying22 rfl rfl (by kernel_rfl) (src_row (new := ic (j : Int)) hr42 rfl) rfl rfl (by kernel_rfl) (by show W.length + 1 ≤ maxNeed; unfold maxNeed; omega) ?_; intro v43 S1 hl
   obtain ⟨av3, rfl⟩ : ∃ av3, v43 = .slice av3 (W.length + 1) (W.length + 1) := Grow.is (hl.gr _ (List.mem_cons_of_mem _ (List.mem_cons_self ..)))
   refine rm rfl ?_; refine re_end rfl ?_; refine xg (by kernel_rfl) ?_; iterate 2 refine rm rfl ?_
   refine rr rfl (rd_nilCheck rfl rfl rfl) ?_; refine rr rfl (rd_fieldAddr rfl rfl (fa Tryd.underlying118 az118 rfl)) ?_; refine rr rfl (rd_load rfl rfl (load1_of (by kernel_rfl) (hd.at_ hl.keep) rfl)) ?_; refine rm rfl ?_; refine rr rfl (rd_indexAddr rfl rfl rfl (indexAddr_sl (z := 1) ha3 Tryd.underlying25 (by kernel_rfl) ⟨by omega, by omega⟩)) ?_; refine rr rfl (rd_load rfl rfl (load1_row (by kernel_rfl) (row_move (hl.since 0 rfl) hrow3) htk3)) ?_; refine rm rfl ?_; refine rr rfl (rd_indexAddr rfl rfl rfl (indexAddr_sl (z := 10) ha4 Tryd.underlying23 (by kernel_rfl) ⟨by omega, by omega⟩)) ?_
   refine rr rfl (rd_fieldAddr rfl rfl (fa Tryd.underlying39 az39 rfl)) ?_; refine rr rfl (rd_load rfl rfl (loadN_row (z := 3) (l := y.p.cells) (by kernel_rfl) (by kernel_rfl) (row_move (hl.since 0 rfl) hrow4) (tk_part (j := 4) (l2 := y.p.cells) htk4 rfl))) ?_; refine re_buildSliceR hl rfl rfl rfl rfl rfl Tryd.underlying119 rfl (c := y.p.cells) (by kernel_rfl) ?_; intro B56 S1 hr56 hl
   refine re_appendG hl 0 rfl rfl (show ([37, 3] : List TypeId).Nodup by decide) rfl rfl rfl rfl rfl rfl rfl Tryd.underlying119 Tryd.underlying119 rfl rfl (by kernel_rfl) (src_row (new := y.p.cells) hr56 rfl) rfl rfl (by kernel_rfl) (by show P.length + 1 ≤ maxNeed; unfold maxNeed; omega) ?_; intro v57 S1 hl
   obtain ⟨av4, rfl⟩ : ∃ av4, v57 = .slice av4 (P.length + 1) (P.length + 1) := Grow.is (hl.gr _ (List.mem_cons_self ..))
   refine rm rfl ?_; refine re_end rfl ?_; refine xg (by kernel_rfl) ?_; refine rr rfl (rd_bin rfl rfl rfl (i6 (by omega))) ?_; refine rm rfl ?_; refine re_end rfl ?_
   refine ⟨V.length - (j + 1), by omega, j + 1, W ++ [(j : Int)], P ++ [y.p], av3, av4, by omega, rfl, by rw [List.length_append]; exact Nat.succ_le_succ hW, by rw [List.length_append]; exact Nat.succ_le_succ hP, by rw [List.append_assoc]; exact hp1, by rw [List.append_assoc]; exact hp2, ⟨rfl, rfl, rfl, congrArg some (congrArg (fun n => Value.slice av4 n n) (by rw [List.length_append]; rfl)), congrArg some (congrArg (fun n => Value.slice av3 n n) (by rw [List.length_append]; rfl)), rfl, rfl, rfl, trivial⟩, ?_⟩
   rw [gOf_push, gOf_push]
   exact hl
  ·
   refine xp_skip rfl ?_; refine xg (by kernel_rfl) ?_; refine rr rfl (rd_bin rfl rfl rfl (i6 (by omega))) ?_; refine rm rfl ?_; refine re_end rfl ?_
   rw [ch_2 h39] at hp1 hp2
   exact ⟨V.length - (j + 1), by omega, j + 1, W, P, a1, a2, by omega, rfl, by omega, by omega, hp1, hp2, ⟨rfl, rfl, rfl, rfl, rfl, rfl, rfl, rfl, trivial⟩, hl⟩
 ·
  have hz : V.length - j = 0 := by have := of_decide_eq_false h20; omega
  rw [hz] at hp1 hp2
  have hp1 : W = (chE V L n).map (·.1) := (List.append_nil W).symm.trans hp1
  have hp2 : P = (chE V L n).map (·.2) := (List.append_nil P).symm.trans hp2
  rw [← hp1, ← hp2]
  refine xp_exit rfl ?_; refine xs (by kernel_rfl) ?_; iterate 4 refine rm rfl ?_
  refine re_end rfl ?_; refine xp_ret rfl ?_
  refine done_ret (ress_tmp rfl (ress_tmp rfl rfl)) ⟨hl.keep, ⟨_, _, rfl, Grow.ls (f := ic) (fun _ => rfl) (hl.gr _ (List.mem_cons_of_mem _ (List.mem_cons_self ..))), Grow.ls (f := Pt.cells) (fun _ => rfl) (hl.gr _ (List.mem_cons_self ..))⟩⟩
end Go.Proofs.YtlnenodplgpceaaDoor
namespace Go.Proofs.YtlnenodplgpceaaDoor
open Go.Cm Go
set_option maxRecDepth 100000
variable {S : St}
def modE (a n : Int) : Int := bif decide (a.tmod n < 0) then a.tmod n + n else a.tmod n
theorem tmod_bd (a : Int) {n : Int} (hn : 0 < n) : -n < a.tmod n ∧ a.tmod n < n :=
 ⟨Int.lt_tmod_of_pos a hn, Int.tmod_lt_of_pos a hn⟩
theorem modE_bd (a : Int) {n : Int} (hn : 0 < n) : 0 ≤ modE a n ∧ modE a n < n := by
 have h := tmod_bd a hn
 unfold modE
 cases hd : decide (a.tmod n < 0) with
 | true => have := of_decide_eq_true hd; show 0 ≤ a.tmod n + n ∧ a.tmod n + n < n; omega
 | false => have := of_decide_eq_false hd; show 0 ≤ a.tmod n ∧ a.tmod n < n; omega
theorem md_1 {a n : Int} (h : decide (a.tmod n < 0) = true) : a.tmod n + n = modE a n := by unfold modE; rw [h]; rfl
theorem md_2 {a n : Int} (h : decide (a.tmod n < 0) = false) : a.tmod n = modE a n := by unfold modE; rw [h]; rfl
def tT (n d : Int) : Ti := ⟨n.tdiv (gI n d), d.tdiv (gI n d)⟩
noncomputable def c8 : Code := Tryd.f8.body.getD .skip
theorem spec8  : CC Tryd.prog KK 8 [] S (fun v S' => Keep S S' ∧ v = zT.v) := by
 refine cc_enter (c := c8) (n := 2) Tryd.func8 rfl rfl rfl (by kernel_rfl) rfl rfl ?_
 have hl := Hold.start S
 refine xs (by kernel_rfl) ?_; refine re_allocL hl rfl rfl rfl rfl rfl (z := [.int .i64 0, .int .i64 0]) (by kernel_rfl) ?_; intro B0 S0 hl; refine re_end rfl ?_; refine xs (by kernel_rfl) ?_; refine rr rfl (rd_build rfl rfl (v := aggL [.int .i64 0, .int .i64 1]) (by rfl)) ?_; refine re_storeL hl 0 rfl rfl rfl rfl rfl rfl rfl (by kernel_rfl) rfl ?_; intro S1 hl; refine re_end rfl ?_; refine xp_ret rfl ?_
 refine done_ret (ress_cell rfl (loadN_of (z := 2) (by kernel_rfl) (by kernel_rfl) (hl.get 0 rfl) rfl) rfl) ⟨hl.keep, rfl⟩
noncomputable def c9 : Code := Tryd.f9.body.getD .skip
theorem spec9 (a n : Int) (hn : 0 < n) (hn2 : n ≤ 1000000) : CC Tryd.prog KK 9 [.int .i64 a, .int .i64 n] S (fun v S' => Keep S S' ∧ v = .int .i64 (modE a n)) := by
 refine cc_enter (c := c9) (n := 16) Tryd.func9 rfl rfl rfl (by kernel_rfl) rfl rfl ?_
 have hl := Hold.start S
 have hb := tmod_bd a hn
 refine xs (by kernel_rfl) ?_; refine rm rfl ?_; refine re_end rfl ?_; refine xp_seq rfl ?_; refine xs (by kernel_rfl) ?_; refine rm rfl ?_; refine rr rfl (rd_bin rfl rfl rfl rfl) ?_; refine re_end rfl ?_; refine xp_cond rfl rfl (fun h6 => ?_) (fun h6 => ?_)
 ·
  refine xs (by kernel_rfl) ?_; refine rm rfl ?_; refine re_end rfl ?_; refine xp_ret rfl ?_
  refine thn_ret (done_ret (ress_tmp rfl rfl) ⟨hl.keep, by have := of_decide_eq_true h6; omega⟩)
 ·
  refine xp_skip rfl ?_; refine xs (by kernel_rfl) ?_; iterate 2 refine rm rfl ?_
  refine rr rfl (rd_bin rfl rfl rfl (remV hn)) ?_; refine rm rfl ?_; refine re_end rfl ?_; refine xp_seq rfl (xe_cut (fun Le S' => SubE [(0, .int .i64 (modE a n))] Le ∧ HoldG S [S] S' [] []) ?_ ?_)
  ·
   refine xs (by kernel_rfl) ?_; refine rm rfl ?_; refine rr rfl (rd_bin rfl rfl rfl rfl) ?_; refine re_end rfl ?_; refine xp_cond rfl rfl (fun h11 => ?_) (fun h11 => ?_)
   ·
    refine xg (by kernel_rfl) ?_; iterate 2 refine rm rfl ?_
    refine rr rfl (rd_bin rfl rfl rfl (i6 (by omega))) ?_; refine rm rfl ?_; refine re_end rfl ?_
    exact ⟨rfl, ⟨congrArg some (congrArg (Value.int .i64) (md_1 h11)), trivial⟩, hl⟩
   ·
    refine xp_skip rfl ?_
    exact ⟨rfl, ⟨congrArg some (congrArg (Value.int .i64) (md_2 h11)), trivial⟩, hl⟩
  clear hl; rintro Le3 S1 ⟨hsub3, hl⟩; refine xe_sub hsub3 ?_
  refine xs (by kernel_rfl) ?_; iterate 2 refine rm rfl ?_
  refine re_end rfl ?_; refine xp_ret rfl ?_
  refine done_ret (ress_tmp rfl rfl) ⟨hl.keep, rfl⟩
noncomputable def c22 : Code := Tryd.f22.body.getD .skip
theorem spec22 (n d : Int) (hF : Fresh S) (h0 : 0 ≤ n) (h1 : n ≤ 9223372036854775807) (h2 : 1 ≤ d) (h3 : d ≤ 9223372036854775807) : CC Tryd.prog KK 22 [.int .i64 n, .int .i64 d] S (fun v S' => Keep S S' ∧ v = (tT n d).v) := by
 refine cc_enter (c := c22) (n := 27) Tryd.func22 rfl rfl rfl (by kernel_rfl) rfl rfl ?_
 have hl := Hold.start S
 refine xs (by kernel_rfl) ?_; refine re_allocL hl rfl rfl rfl rfl rfl (z := [.int .i64 0, .int .i64 0]) (by kernel_rfl) ?_; intro B4 S4 hl; refine re_end rfl ?_; refine xs (by kernel_rfl) ?_; iterate 4 refine rm rfl ?_
 refine re_end rfl ?_; refine xp_seq rfl ?_; refine xp_block rfl ?_
 -- LOOP
 refine xe_sub (L' := [(6, .int .i64 d), (5, .int .i64 n), (4, ptrTo B4 0), (0, .int .i64 n), (1, .int .i64 d)]) ⟨rfl, rfl, rfl, rfl, rfl, trivial⟩ ?_
 refine xp_loop rfl (fun m Le S' => ∃ a b : Int, 0 ≤ a ∧ a ≤ 9223372036854775807 ∧ 0 ≤ b ∧ b ≤ 9223372036854775807 ∧ m = b.toNat ∧ gI a b = gI n d ∧ SubE [(6, .int .i64 b), (5, .int .i64 a), (4, ptrTo B4 0), (0, .int .i64 n), (1, .int .i64 d)] Le ∧ HoldG S [S] S' [(B4, .cells [.int .i64 0, .int .i64 0] 33 false true [])] []) ?_ (m := d.toNat) ⟨n, d, h0, h1, by omega, h3, rfl, rfl, ⟨rfl, rfl, rfl, rfl, rfl, trivial⟩, hl⟩
 clear hl; rintro m Le S' ⟨a, b, ha, ha2, hb, hb2, rfl, hg, hsub, hl⟩; refine xe_sub hsub ?_
 refine xp_seq rfl ?_; refine xs (by kernel_rfl) ?_; refine rm rfl ?_; refine rr rfl (rd_bin rfl rfl rfl rfl) ?_; refine re_end rfl ?_; refine xp_cond rfl rfl (fun h11 => ?_) (fun h11 => ?_)
 ·
  have hb0 : 0 < b := by have := h11; simp at this; omega
  have hr := rem_bd (a := a) hb0 ha
  refine xp_skip rfl ?_; refine xp_block rfl ?_; refine xs (by kernel_rfl) ?_; iterate 2 refine rm rfl ?_
  refine rr rfl (rd_bin rfl rfl rfl (remV hb0)) ?_; refine rm rfl ?_; refine re_end rfl ?_; refine xs (by kernel_rfl) ?_; iterate 2 refine rm rfl ?_
  refine re_end rfl ?_; refine xg (by kernel_rfl) ?_; iterate 2 refine rm rfl ?_
  refine re_end rfl ?_
  exact ⟨(a.tmod b).toNat, by omega, b, a.tmod b, hb, hb2, hr.1, by omega, rfl, by rw [gI_step ha hb0]; exact hg, ⟨rfl, rfl, rfl, rfl, rfl, trivial⟩, hl⟩
 ·
  have hbz : b = 0 := by have := of_decide_eq_false h11; omega
  have hag : a = gI n d := by rw [← hg, hbz, gI_zero ha]
  have hgp : 0 < gI n d := gI_pos (by omega)
  subst hag
  refine xp_exit rfl ?_; refine xp_seq rfl ?_; refine xs (by kernel_rfl) ?_; refine rm rfl ?_; refine rr rfl (rd_bin rfl rfl rfl rfl) ?_; refine re_end rfl ?_; refine xp_cond rfl rfl (fun h18 => ?_) (fun h18 => ?_)
  ·
   refine xs (by kernel_rfl) ?_; refine rr rfl (rd_build rfl rfl (v := aggL [.int .i64 0, .int .i64 1]) (by rfl)) ?_; refine re_storeL hl 0 rfl rfl rfl rfl rfl rfl rfl (by kernel_rfl) rfl ?_; intro S1 hl; refine re_end rfl ?_; refine xp_ret rfl ?_
   refine thn_ret (done_ret (ress_cell rfl (loadN_of (z := 2) (by kernel_rfl) (by kernel_rfl) (hl.get 0 rfl) rfl) rfl) ⟨hl.keep, by simp at h18; omega⟩)
  ·
   refine xp_skip rfl ?_; refine xp_seq rfl ?_; refine xp_draw (idx := [0, 1, 2, 3, 4, 5, 6, 7]) rfl (by kernel_rfl) (by kernel_rfl) ?_; iterate 2 refine pm rfl ?_
   refine pr rfl (rd_bin rfl rfl rfl (quoV hgp h0 h1)) ?_; iterate 2 refine pm rfl ?_
   refine pr rfl (rd_bin rfl rfl rfl (quoV hgp (by omega) h3)) ?_; refine pr rfl (rd_build rfl rfl (v := aggL [.int .i64 (n.tdiv (gI n d)), .int .i64 (d.tdiv (gI n d))]) (by rfl)) ?_
   refine rp_storeL hl 0 rfl rfl rfl rfl rfl rfl rfl (by kernel_rfl) rfl ?_; intro S1 hl; refine ⟨stays_all (by kernel_rfl), ?_⟩
   refine rp_end rfl ?_; refine xp_ret rfl ?_
   refine done_ret (ress_cell rfl (loadN_of (z := 2) (by kernel_rfl) (by kernel_rfl) (hl.get 0 rfl) rfl) rfl) ⟨hl.keep, rfl⟩
end Go.Proofs.YtlnenodplgpceaaDoor
namespace Go.Proofs.YtlnenodplgpceaaDoor
open Go.Cm Go
set_option maxRecDepth 100000
variable {S : St}
def plT (a b : Ti) : Ti := tT (a.n * b.d + b.n * a.d) (a.d * b.d)
def eoT (C : List Ev) : Ti := match nth C (C.length - 1) with
 | none => zT
 | some x => plT x.at_ x.dur
theorem eo_1 {C : List Ev} (h : ((C.length : Int) == 0) = true) : eoT C = zT := by
 cases C with
 | nil => rfl
 | cons x r => simp at h; omega
theorem eo_2 {C : List Ev} {x : Ev} (hx : nth C (C.length - 1) = some x) : eoT C = plT x.at_ x.dur := by unfold eoT; rw [hx]
noncomputable def c11 : Code := Tryd.f11.body.getD .skip
theorem spec11 (a b : Ti) (hF : Fresh S) (hok : (firstE [a, b] != 0) = false) : CC Tryd.prog KK 11 [a.v, b.v] S (fun v S' => Keep S S' ∧ v = (plT a b).v) := by
 refine cc_enter (c := c11) (n := 22) Tryd.func11 rfl rfl rfl (by kernel_rfl) rfl rfl ?_
 have hl := Hold.start S
 have hbd := firstBd hok
 have h2 := first2 hok
 have ha := tE_ok h2.1
 have hb := tE_ok h2.2
 have hp : 0 < a.d * b.d := Int.mul_pos (by omega) (by omega)
 refine xs (by kernel_rfl) ?_; refine re_boxL hl rfl rfl rfl rfl rfl rfl ?_; intro B2 S2 hl; refine re_boxL hl rfl rfl rfl rfl rfl rfl ?_; intro B3 S3 hl; refine re_allocL hl rfl rfl rfl rfl rfl (z := [.int .i64 0, .int .i64 0]) (by kernel_rfl) ?_; intro B4 S4 hl; refine re_end rfl ?_; refine xs (by kernel_rfl) ?_; refine rr rfl (rd_fieldAddr rfl rfl (fa Tryd.underlying33 az33 rfl)) ?_; refine rr rfl (rl hl 2 rfl rfl (by kernel_rfl) rfl rfl) ?_; refine rr rfl (rd_fieldAddr rfl rfl (fa Tryd.underlying33 az33 rfl)) ?_; refine rr rfl (rl hl 1 rfl rfl (by kernel_rfl) rfl rfl) ?_
 refine rr rfl (rd_bin rfl rfl rfl (i6 (by omega))) ?_; refine rr rfl (rd_fieldAddr rfl rfl (fa Tryd.underlying33 az33 rfl)) ?_; refine rr rfl (rl hl 1 rfl rfl (by kernel_rfl) rfl rfl) ?_; refine rr rfl (rd_fieldAddr rfl rfl (fa Tryd.underlying33 az33 rfl)) ?_; refine rr rfl (rl hl 2 rfl rfl (by kernel_rfl) rfl rfl) ?_; iterate 2 refine rr rfl (rd_bin rfl rfl rfl (i6 (by omega))) ?_
 refine rr rfl (rd_fieldAddr rfl rfl (fa Tryd.underlying33 az33 rfl)) ?_; refine rr rfl (rl hl 2 rfl rfl (by kernel_rfl) rfl rfl) ?_; refine rr rfl (rd_fieldAddr rfl rfl (fa Tryd.underlying33 az33 rfl)) ?_; refine rr rfl (rl hl 1 rfl rfl (by kernel_rfl) rfl rfl) ?_; refine rr rfl (rd_bin rfl rfl rfl (i6 (by omega))) ?_
 refine re_callL hl rfl rfl rfl rfl rfl rfl rfl (spec22 (a.n * b.d + b.n * a.d) (a.d * b.d) (hl.keep.3 hF) (by omega) (by omega) (by omega) (by omega)) ?_; rintro v S1 hk1 rfl hl
 refine re_storeL hl 0 rfl rfl rfl rfl rfl rfl rfl (by kernel_rfl) rfl ?_; intro S1 hl; refine re_end rfl ?_; refine xp_ret rfl ?_
 refine done_ret (ress_cell rfl (loadN_of (z := 2) (by kernel_rfl) (by kernel_rfl) (hl.get 0 rfl) rfl) rfl) ⟨hl.keep, rfl⟩
noncomputable def c7 : Code := Tryd.f7.body.getD .skip
theorem spec7 (a : Option Addr) (cap : Nat) (C : List Ev) (hF : Fresh S) (hn : C.length ≤ 2000) (hok : ∀ x, x ∈ C → (firstE [x.at_, x.dur] != 0) = false) (hv : Evs S (.slice a C.length cap) C) : CC Tryd.prog KK 7 [.slice a C.length cap] S (fun v S' => Keep S S' ∧ v = (eoT C).v) := by
 refine cc_enter (c := c7) (n := 22) Tryd.func7 rfl rfl rfl (by kernel_rfl) rfl rfl ?_
 have hl := Hold.start S
 refine xs (by kernel_rfl) ?_; refine re_allocL hl rfl rfl rfl rfl rfl (z := [.int .i64 0, .int .i64 0]) (by kernel_rfl) ?_; intro B2 S2 hl; refine re_end rfl ?_; refine xp_seq rfl ?_; refine xs (by kernel_rfl) ?_; refine rm rfl ?_; refine rr rfl (rd_len rfl rfl (len_slice Tryd.underlying23)) ?_; refine rr rfl (rd_bin rfl rfl rfl rfl) ?_; refine re_end rfl ?_; refine xp_cond rfl rfl (fun h5 => ?_) (fun h5 => ?_)
 ·
  refine xs (by kernel_rfl) ?_
  refine re_callL hl rfl rfl rfl rfl rfl rfl rfl spec8 ?_; rintro v S1 hk1 rfl hl
  refine re_storeL hl 0 rfl rfl rfl rfl rfl rfl rfl (by kernel_rfl) rfl ?_; intro S1 hl; refine re_end rfl ?_; refine xp_ret rfl ?_
  refine thn_ret (done_ret (ress_cell rfl (loadN_of (z := 2) (by kernel_rfl) (by kernel_rfl) (hl.get 0 rfl) rfl) rfl) ⟨hl.keep, by rw [eo_1 h5] <;> rfl⟩)
 ·
  have hne : 0 < C.length := by cases C with
   | nil => simp at h5
   | cons => simp
  obtain ⟨x, hx⟩ := nth_some (l := C) (i := C.length - 1) (by omega)
  obtain ⟨b1, o1, cs1, ha, _, hrow, htk⟩ := hv.elem hx
  have hxo := hok x (nth_mem hx)
  rw [show C.length - 1 = ((C.length : Int) - 1).toNat by omega] at htk
  refine xp_skip rfl ?_; refine xp_seq rfl ?_; refine xp_draw (idx := [0, 1, 2, 3, 4, 5, 6, 7, 8, 9, 10, 11, 12, 13, 14, 15]) rfl (by kernel_rfl) (by kernel_rfl) ?_; iterate 2 refine pm rfl ?_
  refine pk rfl (rd_len rfl rfl (len_slice Tryd.underlying23)) ?_; refine pr rfl (rd_bin rfl rfl rfl (i6 (by omega))) ?_; refine pr rfl (rd_indexAddr rfl rfl rfl (indexAddr_sl (z := 10) ha Tryd.underlying23 (by kernel_rfl) ⟨by omega, by omega⟩)) ?_; refine pr rfl (rd_fieldAddr rfl rfl (fa Tryd.underlying39 az39 rfl)) ?_; refine pk rfl (rd_load rfl rfl (loadN_row (z := 2) (l := x.at_.cells) (by kernel_rfl) (by kernel_rfl) (row_move (hl.since 0 rfl) hrow) (tk_part (j := 0) (l2 := x.at_.cells) htk rfl))) ?_; iterate 2 refine pm rfl ?_
  refine pk rfl (rd_len rfl rfl (len_slice Tryd.underlying23)) ?_; refine pr rfl (rd_bin rfl rfl rfl (i6 (by omega))) ?_; refine pr rfl (rd_indexAddr rfl rfl rfl (indexAddr_sl (z := 10) ha Tryd.underlying23 (by kernel_rfl) ⟨by omega, by omega⟩)) ?_; refine pr rfl (rd_fieldAddr rfl rfl (fa Tryd.underlying39 az39 rfl)) ?_; refine pk rfl (rd_load rfl rfl (loadN_row (z := 2) (l := x.dur.cells) (by kernel_rfl) (by kernel_rfl) (row_move (hl.since 0 rfl) hrow) (tk_part (j := 2) (l2 := x.dur.cells) htk rfl))) ?_
  refine rp_callL hl rfl rfl rfl rfl rfl rfl rfl (spec11 x.at_ x.dur (hl.keep.3 hF) hxo) ?_; rintro v S1 hk1 rfl hl; refine ⟨stays_all (by kernel_rfl), ?_⟩
  refine rp_storeL hl 0 rfl rfl rfl rfl rfl rfl rfl (by kernel_rfl) rfl ?_; intro S1 hl; refine ⟨stays_all (by kernel_rfl), ?_⟩
  refine rp_end rfl ?_; refine xp_ret rfl ?_
  refine done_ret (ress_cell rfl (loadN_of (z := 2) (by kernel_rfl) (by kernel_rfl) (hl.get 0 rfl) rfl) rfl) ⟨hl.keep, by rw [eo_2 hx] <;> rfl⟩
end Go.Proofs.YtlnenodplgpceaaDoor
namespace Go.Proofs.YtlnenodplgpceaaDoor
open Go.Cm Go
set_option maxRecDepth 100000
variable {S : St}
def chP (x : Ev) (n : Int) : Ev × Int := bif x.rest then (x, 0) else (⟨x.at_, x.dur, (mvE x.p n).1, x.rest, x.sign, x.pass⟩, (mvE x.p n).2)
theorem chP_1 {x : Ev} {n : Int} (h : x.rest = true) : chP x n = (x, 0) := by unfold chP; rw [h]; rfl
theorem chP_2 {x : Ev} {n : Int} (h : x.rest = false) : chP x n = (⟨x.at_, x.dur, (mvE x.p n).1, false, x.sign, x.pass⟩, (mvE x.p n).2) := by unfold chP; rw [h]; rfl
noncomputable def c17 : Code := Tryd.f17.body.getD .skip
theorem spec17 (a : Option Addr) (cap : Nat) (C : List Ev) (hF : Fresh S) (hv : Evs S (.slice a C.length cap) C) : CC Tryd.prog KK 17 [.slice a C.length cap] S (fun v S' => Keep S S' ∧ v = .int .i64 (evE C).1) := by
 refine cc_enter (c := c17) (n := 11) Tryd.func17 rfl rfl rfl (by kernel_rfl) rfl rfl ?_
 have hl := Hold.start S
 refine xs (by kernel_rfl) ?_; refine rm rfl ?_; refine re_end rfl ?_; refine xs (by kernel_rfl) ?_; refine rm rfl ?_
 refine re_callL hl rfl rfl rfl rfl rfl rfl rfl (spec29 a cap C (hl.keep.3 hF) (hv.move (hl.since 0 rfl))) ?_; rintro v S1 hk1 rfl hl
 iterate 5 refine rm rfl ?_
 refine re_end rfl ?_; refine xs (by kernel_rfl) ?_; iterate 2 refine rm rfl ?_
 refine re_end rfl ?_; refine xp_ret rfl ?_
 refine done_ret (ress_tmp rfl rfl) ⟨hl.keep, rfl⟩
noncomputable def c19 : Code := Tryd.f19.body.getD .skip
theorem spec19 (p : Pt) (n : Int) (bs : Nat) (hb : bs < S.size) (hg : S.get bs = some (.cells [.int .i64 n] 3 false true [])) : CC Tryd.prog KK 19 [p.v, ptrTo bs 0] S (fun v S' => Keep S S' ∧ v = rp (mvE p n)) := by
 refine cc_enter (c := c19) (n := 10) Tryd.func19 rfl rfl rfl (by kernel_rfl) rfl rfl ?_
 have hl := Hold.start S
 refine xs (by kernel_rfl) ?_; refine re_boxL hl rfl rfl rfl rfl rfl rfl ?_; intro B2 S2 hl; refine re_allocL hl rfl rfl rfl rfl rfl (z := [.int .i64 0, .int .i64 0, .int .i64 0]) (by kernel_rfl) ?_; intro B3 S3 hl; refine rm rfl ?_; refine re_end rfl ?_; refine xs (by kernel_rfl) ?_; refine rr rfl (rd_load rfl rfl (loadN_of (z := 3) (by kernel_rfl) (by kernel_rfl) (hl.get 1 rfl) rfl)) ?_; refine rr rfl (rd_load rfl rfl (load1_of (by kernel_rfl) ((hl.keep.2 bs hb).trans hg) rfl)) ?_
 refine re_callL hl rfl rfl rfl rfl rfl rfl rfl (spec20 p n) ?_; rintro v S1 hk1 rfl hl
 iterate 2 refine rm rfl ?_
 refine re_storeL hl 0 rfl rfl rfl rfl rfl rfl rfl (by kernel_rfl) rfl ?_; intro S1 hl; refine rm rfl ?_; refine re_end rfl ?_; refine xp_ret rfl ?_
 refine done_ret (ress_cell rfl (loadN_of (z := 3) (by kernel_rfl) (by kernel_rfl) (hl.get 0 rfl) rfl) (ress_tmp rfl rfl)) ⟨hl.keep, rfl⟩
noncomputable def c30 : Code := Tryd.f30.body.getD .skip
theorem spec30 (x : Ev) (n : Int) (bs bf : Nat) (hb : bs < S.size) (hg : S.get bs = some (.cells [.int .i64 n] 3 false true [])) (hb2 : bf < S.size) (hg2 : S.get bf = some (.cells [.func (.func 19) #[] #[ptrTo bs 0]] 59 false true [])) : CC Tryd.prog KK 30 [x.v, ptrTo bf 0] S (fun v S' => Keep S S' ∧ v = tupV [(chP x n).1.v, .int .i64 (chP x n).2]) := by
 refine cc_enter (c := c30) (n := 21) Tryd.func30 rfl rfl rfl (by kernel_rfl) rfl rfl ?_
 have hl := Hold.start S
 refine xs (by kernel_rfl) ?_; refine re_boxL hl rfl rfl rfl rfl rfl rfl ?_; intro B2 S2 hl; refine re_allocL hl rfl rfl rfl rfl rfl (z := [.int .i64 0, .int .i64 0, .int .i64 0, .int .i64 0, .int .i64 0, .int .i64 0, .int .i64 0, .bool false, .int .i64 0, .int .i64 0]) (by kernel_rfl) ?_; intro B3 S3 hl; refine rm rfl ?_; refine re_end rfl ?_; refine xp_seq rfl ?_; refine xs (by kernel_rfl) ?_; refine rr rfl (rd_fieldAddr rfl rfl (fa Tryd.underlying39 az39 rfl)) ?_; refine rr rfl (rl hl 1 rfl rfl (by kernel_rfl) rfl rfl) ?_; refine re_end rfl ?_
 refine xp_cond rfl rfl (fun h8 => ?_) (fun h8 => ?_)
 ·
  refine xs (by kernel_rfl) ?_; refine rr rfl (rd_load rfl rfl (loadN_of (z := 10) (by kernel_rfl) (by kernel_rfl) (hl.get 1 rfl) rfl)) ?_; refine re_storeL hl 0 rfl rfl rfl rfl rfl rfl rfl (by kernel_rfl) rfl ?_; intro S1 hl; refine rm rfl ?_; refine re_end rfl ?_; refine xp_ret rfl ?_
  refine thn_ret (done_ret (ress_cell rfl (loadN_of (z := 10) (by kernel_rfl) (by kernel_rfl) (hl.get 0 rfl) rfl) (ress_tmp rfl rfl)) ⟨hl.keep, by rw [chP_1 h8] <;> rfl⟩)
 ·
  refine xp_skip rfl ?_; refine xs (by kernel_rfl) ?_; refine rr rfl (rd_load rfl rfl (load1_of (by kernel_rfl) ((hl.keep.2 bf hb2).trans hg2) rfl)) ?_; refine rr rfl (rd_fieldAddr rfl rfl (fa Tryd.underlying39 az39 rfl)) ?_; refine rr rfl (rd_load rfl rfl (loadN_of (z := 3) (by kernel_rfl) (by kernel_rfl) (hl.get 1 rfl) rfl)) ?_
  refine re_callL hl rfl rfl rfl rfl rfl rfl rfl (spec19 x.p n bs (Nat.lt_of_lt_of_le hb hl.keep.1) ((hl.keep.2 bs hb).trans hg)) ?_; rintro v S1 hk1 rfl hl
  iterate 3 refine rm rfl ?_
  refine re_allocL hl rfl rfl rfl rfl rfl (z := [.int .i64 0, .int .i64 0, .int .i64 0]) (by kernel_rfl) ?_; intro B5 S5 hl; refine re_storeL hl 0 rfl rfl rfl rfl rfl rfl rfl (by kernel_rfl) rfl ?_; intro S1 hl; refine rm rfl ?_; refine re_end rfl ?_; refine xs (by kernel_rfl) ?_; refine rr rfl (rd_load rfl rfl (loadN_of (z := 3) (by kernel_rfl) (by kernel_rfl) (hl.get 0 rfl) rfl)) ?_; refine rr rfl (rd_fieldAddr rfl rfl (fa Tryd.underlying39 az39 rfl)) ?_; refine re_storeL hl 2 rfl rfl rfl rfl rfl rfl rfl (by kernel_rfl) rfl ?_; intro S1 hl; refine re_end rfl ?_; refine xs (by kernel_rfl) ?_
  refine rr rfl (rd_load rfl rfl (loadN_of (z := 10) (by kernel_rfl) (by kernel_rfl) (hl.get 2 rfl) rfl)) ?_; refine rm rfl ?_; refine re_storeL hl 1 rfl rfl rfl rfl rfl rfl rfl (by kernel_rfl) rfl ?_; intro S1 hl; refine rm rfl ?_; refine re_end rfl ?_; refine xp_ret rfl ?_
  refine done_ret (ress_cell rfl (loadN_of (z := 10) (by kernel_rfl) (by kernel_rfl) (hl.get 1 rfl) rfl) (ress_tmp rfl rfl)) ⟨hl.keep, by rw [chP_2 h8]; rw [← h8] <;> rfl⟩
end Go.Proofs.YtlnenodplgpceaaDoor
namespace Go.Proofs.YtlnenodplgpceaaDoor
open Go.Cm Go
set_option maxRecDepth 100000
variable {S : St}
def paB (V : List (List Ev)) (mv : Nat) (i : Int) : Bool := (shB (evAt V mv i) && (stpE V mv (i - 1) != 0)) && (stpE V mv i == stpE V mv (i - 1))
noncomputable def c69 : Code := Tryd.f69.body.getD .skip
theorem spec69 (bd : Nat) (aV aS : Option Addr) (cV cS : Nat) (kv : Value) (V : List (List Ev)) (L : List Sl) (pn ph pk9 i : Int) (mv : Nat) (hF : Fresh S) (hG : Gl S) (hd : DSet S bd aV aS cV cS kv V L) (hvv : mv < V.length) (h0 : 0 ≤ i) (hil : i < lenV V mv) : CC Tryd.prog KK 69 [ptrTo bd 0, aggL [.int .i64 pn, .int .i64 (mv : Int), .int .i64 ph, .int .i64 i, .int .i64 pk9]] S (fun v S' => Keep S S' ∧ v = .bool (paB V mv i)) := by
 refine cc_enter (c := c69) (n := 30) Tryd.func69 rfl rfl rfl (by kernel_rfl) rfl rfl ?_
 have hl := Hold.start S
 obtain ⟨x, hx⟩ := nth_some hvv
 have hxl := hd.set.hV x (nth_mem hx)
 have hlx := lenV_at hx
 have hi2 : i ≤ 2000 := by omega
 refine xs (by kernel_rfl) ?_; refine re_boxL hl rfl rfl rfl rfl rfl rfl ?_; intro B3 S3 hl; refine rm rfl ?_; refine re_end rfl ?_; refine xs (by kernel_rfl) ?_; refine rm rfl ?_; refine rr rfl (rd_fieldAddr rfl rfl (fa Tryd.underlying154 az154 rfl)) ?_; refine rr rfl (rl hl 0 rfl rfl (by kernel_rfl) rfl rfl) ?_; refine rr rfl (rd_fieldAddr rfl rfl (fa Tryd.underlying154 az154 rfl)) ?_; refine rr rfl (rl hl 0 rfl rfl (by kernel_rfl) rfl rfl) ?_; refine rr rfl (rd_bin rfl rfl rfl (i6 (by omega))) ?_
 refine re_callL hl rfl rfl rfl rfl rfl rfl rfl (spec82 bd aV aS cV cS kv V L mv (i - 1) (hl.keep.3 hF) (hG.keep hl.keep) (hd.keep hl.keep) hvv (by omega) (by omega)) ?_; rintro v S1 hk1 rfl hl
 refine rm rfl ?_; refine re_end rfl ?_; refine xe_sub (L' := [(5, .int .i64 (stpE V mv (i - 1))), (3, ptrTo B3 0), (0, ptrTo bd 0)]) ⟨rfl, rfl, rfl, trivial⟩ ?_; refine xp_seq rfl (xe_toE hl 4 (.bool (paB V mv i)) ?_ rfl ?_)
 ·
  refine xg (by kernel_rfl) ?_; refine rm rfl ?_; refine rr rfl (rd_load rfl rfl (loadN_of (z := 5) (by kernel_rfl) (by kernel_rfl) (hl.get 0 rfl) rfl)) ?_
  refine re_callL hl rfl rfl rfl rfl rfl rfl rfl (spec83 bd aV aS cV cS kv V L pn ph pk9 i mv (hd.keep hl.keep) hvv h0 hil) ?_; rintro v S1 hk1 rfl hl
  refine rm rfl ?_; refine re_bool (d := 16) rfl (fun h16 => ?_) (fun h16 => ?_)
  ·
   refine rm rfl ?_; refine rr rfl (rd_bin rfl rfl rfl rfl) ?_; iterate 2 refine rm rfl ?_
   refine re_bool (d := 20) rfl (fun h20 => ?_) (fun h20 => ?_)
   ·
    refine rm rfl ?_; refine rr rfl (rd_fieldAddr rfl rfl (fa Tryd.underlying154 az154 rfl)) ?_; refine rr rfl (rl hl 0 rfl rfl (by kernel_rfl) rfl rfl) ?_; refine rr rfl (rd_fieldAddr rfl rfl (fa Tryd.underlying154 az154 rfl)) ?_; refine rr rfl (rl hl 0 rfl rfl (by kernel_rfl) rfl rfl) ?_
    refine re_callL hl rfl rfl rfl rfl rfl rfl rfl (spec82 bd aV aS cV cS kv V L mv (i) (hl.keep.3 hF) (hG.keep hl.keep) (hd.keep hl.keep) hvv (by omega) (by omega)) ?_; rintro v S1 hk1 rfl hl
    refine rm rfl ?_; refine rr rfl (rd_bin rfl rfl rfl rfl) ?_; iterate 2 refine rm rfl ?_
    refine re_end rfl ?_
    exact ⟨rfl, bl (by unfold paB; rw [h16, h20]; rfl), by repeat (first | exact subL_refl _ | refine subL_skip rfl ?_), hl⟩
   ·
    iterate 8 refine rz rfl ?_
    iterate 2 refine rm rfl ?_
    refine re_end rfl ?_
    exact ⟨rfl, bl (by unfold paB; rw [h16, h20]; rfl), by repeat (first | exact subL_refl _ | refine subL_skip rfl ?_), hl⟩
  ·
   iterate 2 refine rz rfl ?_
   iterate 2 refine rm rfl ?_
   iterate 8 refine rz rfl ?_
   iterate 2 refine rm rfl ?_
   refine re_end rfl ?_
   exact ⟨rfl, bl (by unfold paB; rw [h16]; rfl), by repeat (first | exact subL_refl _ | refine subL_skip rfl ?_), hl⟩
 intro S1 hl
 refine xp_ret rfl ?_
 refine done_ret (ress_tmp rfl rfl) ⟨hl.keep, rfl⟩
end Go.Proofs.YtlnenodplgpceaaDoor
namespace Go.Proofs.YtlnenodplgpceaaDoor
open Go.Cm Go
set_option maxRecDepth 100000
variable {S : St}
theorem stp_pos {V : List (List Ev)} {v : Nat} {i : Int} (h : (stpE V v i != 0) = true) : 0 ≤ i := by
 cases hb : decide (i < 0) with
 | false => have := of_decide_eq_false hb; omega
 | true =>
  have : spB V v i = true := by unfold spB; rw [hb]; rfl
  rw [stp_1 this] at h
  cases h
def tuB (V : List (List Ev)) (mv : Nat) (i : Int) : Bool := (((shB (evAt V mv i) && (stpE V mv (i - 1) != 0)) && decide (i + 1 < lenV V mv)) && !(evAt V mv (i + 1)).rest) && decide ((evAt V mv (i + 1)).p = (evAt V mv (i - 1)).p)
noncomputable def c70 : Code := Tryd.f70.body.getD .skip
theorem spec70 (bd : Nat) (aV aS : Option Addr) (cV cS : Nat) (kv : Value) (V : List (List Ev)) (L : List Sl) (pn ph pk9 i : Int) (mv : Nat) (hF : Fresh S) (hG : Gl S) (hd : DSet S bd aV aS cV cS kv V L) (hvv : mv < V.length) (h0 : 0 ≤ i) (hil : i < lenV V mv) : CC Tryd.prog KK 70 [ptrTo bd 0, aggL [.int .i64 pn, .int .i64 (mv : Int), .int .i64 ph, .int .i64 i, .int .i64 pk9]] S (fun v S' => Keep S S' ∧ v = .bool (tuB V mv i)) := by
 refine cc_enter (c := c70) (n := 62) Tryd.func70 rfl rfl rfl (by kernel_rfl) rfl rfl ?_
 have hl := Hold.start S
 obtain ⟨x, hx⟩ := nth_some hvv
 have hs := hd.set
 obtain ⟨b3, o3, cs3, ax, cx, ha3, _, hrow3, htk3, hvx⟩ := hs.vs.elem hx
 have hxl := hd.set.hV x (nth_mem hx)
 have hlx := lenV_at hx
 have hi2 : i ≤ 2000 := by omega
 refine xs (by kernel_rfl) ?_; refine re_boxL hl rfl rfl rfl rfl rfl rfl ?_; intro B3 S3 hl; refine rm rfl ?_; refine re_end rfl ?_; refine xp_seq rfl ?_; refine xp_draw (idx := [0, 1, 2, 3, 4, 5, 6, 7, 8]) rfl (by kernel_rfl) (by kernel_rfl) ?_; refine pm rfl ?_; refine pr rfl (rd_nilCheck rfl rfl rfl) ?_; refine pr rfl (rd_fieldAddr rfl rfl (fa Tryd.underlying118 az118 rfl)) ?_; refine pk rfl (rd_load rfl rfl (load1_of (by kernel_rfl) (hd.at_ hl.keep) rfl)) ?_; refine pr rfl (rd_fieldAddr rfl rfl (fa Tryd.underlying154 az154 rfl)) ?_; refine pk rfl (rl hl 0 rfl rfl (by kernel_rfl) rfl rfl) ?_
 refine pr rfl (rd_indexAddr rfl rfl rfl (indexAddr_sl (z := 1) ha3 Tryd.underlying25 (by kernel_rfl) ⟨by omega, by omega⟩)) ?_; refine pk rfl (rd_load rfl rfl (load1_row (by kernel_rfl) (row_move (hl.since 0 rfl) hrow3) htk3)) ?_; refine pm rfl ?_; refine rp_end rfl ?_; refine xe_sub (L' := [(5, .slice ax x.length cx), (3, ptrTo B3 0), (0, ptrTo bd 0)]) ⟨rfl, rfl, rfl, trivial⟩ ?_; refine xp_seq rfl (xe_toE hl 4 (.bool (tuB V mv i)) ?_ rfl ?_)
 ·
  refine xp_draw (idx := [0, 1, 2, 3, 4, 5, 6, 7, 8, 9, 10, 11, 12, 13, 14, 15, 16, 17, 18, 19, 20, 21, 22, 23, 24, 25, 26, 27, 28, 29, 30, 31, 32, 33, 34, 35, 36, 37, 38, 39, 40, 41, 42, 43, 44, 45, 46, 47, 48]) rfl (by kernel_rfl) (by kernel_rfl) ?_; refine pm rfl ?_; refine pk rfl (rd_load rfl rfl (loadN_of (z := 5) (by kernel_rfl) (by kernel_rfl) (hl.get 0 rfl) rfl)) ?_
  refine rp_callL hl rfl rfl rfl rfl rfl rfl rfl (spec83 bd aV aS cV cS kv V L pn ph pk9 i mv (hd.keep hl.keep) hvv h0 hil) ?_; rintro v S1 hk1 rfl hl; refine ⟨stays_all (by kernel_rfl), ?_⟩
  refine pm rfl ?_; refine rp_bool (d := 17) rfl (fun h17 => ?_) (fun h17 => ?_)
  ·
   refine pm rfl ?_; refine pr rfl (rd_fieldAddr rfl rfl (fa Tryd.underlying154 az154 rfl)) ?_; refine pk rfl (rl hl 0 rfl rfl (by kernel_rfl) rfl rfl) ?_; refine pr rfl (rd_fieldAddr rfl rfl (fa Tryd.underlying154 az154 rfl)) ?_; refine pk rfl (rl hl 0 rfl rfl (by kernel_rfl) rfl rfl) ?_; refine pr rfl (rd_bin rfl rfl rfl (i6 (by omega))) ?_
   refine rp_callL hl rfl rfl rfl rfl rfl rfl rfl (spec82 bd aV aS cV cS kv V L mv (i - 1) (hl.keep.3 hF) (hG.keep hl.keep) (hd.keep hl.keep) hvv (by omega) (by omega)) ?_; rintro v S1 hk1 rfl hl; refine ⟨stays_all (by kernel_rfl), ?_⟩
   refine pr rfl (rd_bin rfl rfl rfl rfl) ?_; iterate 2 refine pm rfl ?_
   refine rp_bool (d := 27) rfl (fun h27 => ?_) (fun h27 => ?_)
   ·
    have hp1 := stp_pos h27
    refine pr rfl (rd_fieldAddr rfl rfl (fa Tryd.underlying154 az154 rfl)) ?_; refine pk rfl (rl hl 0 rfl rfl (by kernel_rfl) rfl rfl) ?_; refine pr rfl (rd_bin rfl rfl rfl (i6 (by omega))) ?_; refine pm rfl ?_; refine pk rfl (rd_len rfl rfl (len_slice Tryd.underlying23)) ?_; refine pr rfl (rd_bin rfl rfl rfl rfl) ?_; iterate 2 refine pm rfl ?_
    refine rp_bool (d := 35) rfl (fun h35 => ?_) (fun h35 => ?_)
    ·
     have hp2 : i + 1 < (x.length : Int) := of_decide_eq_true h35
     obtain ⟨w, hw⟩ := nth_some (l := x) (i := (i + 1).toNat) (by omega)
     obtain ⟨b5, o5, cs5, ha5, _, hrow5, htk5⟩ := hvx.elem hw
     have hew := evAt_at hx hw
     obtain ⟨y, hy⟩ := nth_some (l := x) (i := (i - 1).toNat) (by omega)
     obtain ⟨b4, o4, cs4, ha4, _, hrow4, htk4⟩ := hvx.elem hy
     have hey := evAt_at hx hy
     refine pm rfl ?_; refine pr rfl (rd_fieldAddr rfl rfl (fa Tryd.underlying154 az154 rfl)) ?_; refine pk rfl (rl hl 0 rfl rfl (by kernel_rfl) rfl rfl) ?_; refine pr rfl (rd_bin rfl rfl rfl (i6 (by omega))) ?_; refine pr rfl (rd_indexAddr rfl rfl rfl (indexAddr_sl (z := 10) ha5 Tryd.underlying23 (by kernel_rfl) ⟨by omega, by omega⟩)) ?_; refine pr rfl (rd_fieldAddr rfl rfl (fa Tryd.underlying39 az39 rfl)) ?_; refine pk rfl (rd_load rfl rfl (load1_row (by kernel_rfl) (row_move (hl.since 0 rfl) hrow5) (tk_nth (j := 7) htk5 rfl))) ?_; refine pr rfl (rd_un rfl rfl rfl) ?_; iterate 2 refine pm rfl ?_
     refine rp_bool (d := 45) rfl (fun h45 => ?_) (fun h45 => ?_)
     ·
      refine pm rfl ?_; refine pr rfl (rd_fieldAddr rfl rfl (fa Tryd.underlying154 az154 rfl)) ?_; refine pk rfl (rl hl 0 rfl rfl (by kernel_rfl) rfl rfl) ?_; refine pr rfl (rd_bin rfl rfl rfl (i6 (by omega))) ?_; refine pr rfl (rd_indexAddr rfl rfl rfl (indexAddr_sl (z := 10) ha5 Tryd.underlying23 (by kernel_rfl) ⟨by omega, by omega⟩)) ?_; refine pr rfl (rd_fieldAddr rfl rfl (fa Tryd.underlying39 az39 rfl)) ?_; refine pk rfl (rd_load rfl rfl (loadN_row (z := 3) (l := w.p.cells) (by kernel_rfl) (by kernel_rfl) (row_move (hl.since 0 rfl) hrow5) (tk_part (j := 4) (l2 := w.p.cells) htk5 rfl))) ?_
      refine pm rfl ?_; refine pr rfl (rd_fieldAddr rfl rfl (fa Tryd.underlying154 az154 rfl)) ?_; refine pk rfl (rl hl 0 rfl rfl (by kernel_rfl) rfl rfl) ?_; refine pr rfl (rd_bin rfl rfl rfl (i6 (by omega))) ?_; refine pr rfl (rd_indexAddr rfl rfl rfl (indexAddr_sl (z := 10) ha4 Tryd.underlying23 (by kernel_rfl) ⟨by omega, by omega⟩)) ?_; refine pr rfl (rd_fieldAddr rfl rfl (fa Tryd.underlying39 az39 rfl)) ?_; refine pk rfl (rd_load rfl rfl (loadN_row (z := 3) (l := y.p.cells) (by kernel_rfl) (by kernel_rfl) (row_move (hl.since 0 rfl) hrow4) (tk_part (j := 4) (l2 := y.p.cells) htk4 rfl))) ?_
      refine pr rfl (rd_bin rfl rfl rfl (isPitch _ _ w.p y.p)) ?_; iterate 2 refine pm rfl ?_
      refine rp_end rfl ?_
      exact ⟨rfl, bl (by unfold tuB; rw [h17, h27, hlx, h35, hew, h45, hey]; rfl), by repeat (first | exact subL_refl _ | refine subL_skip rfl ?_), hl⟩
     ·
      iterate 15 refine pz rfl ?_
      iterate 2 refine pm rfl ?_
      refine rp_end rfl ?_
      exact ⟨rfl, bl (by unfold tuB; rw [h17, h27, hlx, h35, hew, h45, hey]; rfl), by repeat (first | exact subL_refl _ | refine subL_skip rfl ?_), hl⟩
    ·
     iterate 8 refine pz rfl ?_
     iterate 2 refine pm rfl ?_
     iterate 15 refine pz rfl ?_
     iterate 2 refine pm rfl ?_
     refine rp_end rfl ?_
     exact ⟨rfl, bl (by unfold tuB; rw [h17, h27, hlx, h35]; rfl), by repeat (first | exact subL_refl _ | refine subL_skip rfl ?_), hl⟩
   ·
    iterate 6 refine pz rfl ?_
    iterate 2 refine pm rfl ?_
    iterate 8 refine pz rfl ?_
    iterate 2 refine pm rfl ?_
    iterate 15 refine pz rfl ?_
    iterate 2 refine pm rfl ?_
    refine rp_end rfl ?_
    exact ⟨rfl, bl (by unfold tuB; rw [h17, h27]; rfl), by repeat (first | exact subL_refl _ | refine subL_skip rfl ?_), hl⟩
  ·
   iterate 8 refine pz rfl ?_
   iterate 2 refine pm rfl ?_
   iterate 6 refine pz rfl ?_
   iterate 2 refine pm rfl ?_
   iterate 8 refine pz rfl ?_
   iterate 2 refine pm rfl ?_
   iterate 15 refine pz rfl ?_
   iterate 2 refine pm rfl ?_
   refine rp_end rfl ?_
   exact ⟨rfl, bl (by unfold tuB; rw [h17]; rfl), by repeat (first | exact subL_refl _ | refine subL_skip rfl ?_), hl⟩
 intro S1 hl
 refine xp_ret rfl ?_
 refine done_ret (ress_tmp rfl rfl) ⟨hl.keep, rfl⟩
end Go.Proofs.YtlnenodplgpceaaDoor
namespace Go.Proofs.YtlnenodplgpceaaDoor
open Go.Cm Go
set_option maxRecDepth 100000
variable {S : St}
noncomputable def c18 : Code := Tryd.f18.body.getD .skip
theorem spec18 (bs : Nat) : CC Tryd.prog KK 18 [.func (.func 19) #[] #[ptrTo bs 0]] S (fun v S' => Keep S S' ∧ ∃ bf, v = .func (.func 30) #[] #[ptrTo bf 0] ∧ HoldG S [S] S' [(bf, .cells [.func (.func 19) #[] #[ptrTo bs 0]] 59 false true [])] []) := by
 refine cc_enter (c := c18) (n := 4) Tryd.func18 rfl rfl rfl (by kernel_rfl) rfl rfl ?_
 have hl := Hold.start S
 refine xs (by kernel_rfl) ?_; refine re_boxL hl rfl rfl rfl rfl rfl rfl ?_; intro B1 S1 hl; refine rm rfl ?_; refine re_end rfl ?_; refine xs (by kernel_rfl) ?_; refine rr rfl (rd_func rfl rfl rfl) ?_; refine rm rfl ?_; refine re_end rfl ?_; refine xp_ret rfl ?_
 refine done_ret (ress_tmp rfl rfl) ⟨hl.keep, ⟨B1, rfl, hl⟩⟩
end Go.Proofs.YtlnenodplgpceaaDoor
namespace Go.Proofs.YtlnenodplgpceaaDoor
open Go.Cm Go
set_option maxRecDepth 100000
variable {S : St}
def TLe (aw : Option Addr) (D : List Ev) (tl : List (Nat × Blk)) : Prop := (D = [] ∧ aw = none ∧ tl = []) ∨
 ∃ b ks tl2, aw = some ⟨b, 0, none⟩ ∧ tl = (b, .cells ((D.map Ev.cells).flatten) 39 true true ks) :: tl2 ∧ (0 < D.length → tl2 = deadL 39 ks)
theorem TLe.pos {aw : Option Addr} {D : List Ev} {tl : List (Nat × Blk)} (h : TLe aw D tl) (hne : 0 < D.length) : ∃ b ks, aw = some ⟨b, 0, none⟩ ∧ tl = (b, .cells ((D.map Ev.cells).flatten) 39 true true ks) :: deadL 39 ks := by
 rcases h with ⟨h, _⟩ | ⟨b, ks, tl2, h1, h2, h3⟩
 ·rw [h] at hne; simp at hne
 ·exact ⟨b, ks, h1, by rw [h2, h3 hne]⟩
theorem TLe.put {b : Nat} {D : List Ev} : TLe (some ⟨b, 0, none⟩) D ([(b, .cells ((D.map Ev.cells).flatten) 39 true true [])] : List (Nat × Blk)) := .inr ⟨b, [], [], rfl, rfl, fun _ => rfl⟩
theorem TLe.evs {S0 S : St} {Ts : List St} {r tl : List (Nat × Blk)} {gs : List Gr} {aw : Option Addr} {D : List Ev} (h : TLe aw D tl) (hl : HoldG S0 Ts S (r ++ tl) gs) : Evs S (.slice aw D.length D.length) D := by
 rcases h with ⟨rfl, rfl, _⟩ | ⟨b, ks, tl2, rfl, rfl, _⟩
 ·exact LsOf.nil
 ·have := hl.at_ b _ (List.mem_append.2 (.inr (List.mem_cons_self ..)))
  exact LsOf.row (fun _ => rfl) ⟨this.2.2, true, ks, this.1⟩ rfl
theorem TLe.of {aw : Option Addr} {C : List Ev} {tl : List (Nat × Blk)} (h : RowT 39 aw C.length ((C.map Ev.cells).flatten) tl) : TLe aw C tl := by
 rcases h with ⟨B0, h1, h2, rfl, rfl⟩ | ⟨B, B0, h1, rfl, rfl⟩
 ·obtain rfl := List.eq_nil_of_length_eq_zero h1
  exact .inr ⟨B0, [], [], rfl, rfl, fun _ => rfl⟩
 ·exact .inr ⟨B, [B0], _, rfl, rfl, fun _ => rfl⟩
theorem ls_none {e : TypeId} {z : Nat} {α : Type} {f : α → List Value} {S : St} {a : Option Addr} {n cap : Nat} {C : List α} (h : LsOf e z f S (.slice a n cap) C) (hn : a.isNone = true) : C = [] := by
 cases C with
 | nil => rfl
 | cons x r =>
  obtain ⟨b, o, cs, rfl, _⟩ := LsOf.elem h (k := 0) rfl
  cases hn
theorem flatCellE : ∀ C : List Ev, ((C.map Ev.cells).flatten).all cellV = true
 | [] => rfl
 | x :: C => by
  rw [List.map_cons, List.flatten_cons, List.all_append, flatCellE C]
  rfl
theorem Evs.cells {S : St} {a : Option Addr} {cap : Nat} {C : List Ev} (h : Evs S (.slice a C.length cap) C) : sourceCells S 10 C.length (.slice a C.length cap) = some ((C.map Ev.cells).flatten) := SliceAt.cells h
theorem re_appendS {P : Program} {K : Known} {n : Nat} {L : Env} {S S0 : St} {Q : Post} {ops : List Oper} {i d : Nat} {o : Oper} {l : List (Nat × Blk)} {B0 : Nat} {e : TypeId} (hl : HoldG S0 [S0] S ((B0, .cells [] e true true []) :: l) []) {ar : Array Operand} {ts : Array TypeId} {sT xT : TypeId} {xd : TypeDesc} {x : Value} {m z : Nat} {new : List Value}
  (ho : nth ops i = some o) (hop : o.op = .call ⟨.builtin .append, ar, ts⟩) (hw : wantE ops L o = some true) (hdst : o.dst = some d) (hlt : Nat.blt d n = true) (hx : Cm.evs L ar.toList = some [.slice (some ⟨B0, 0, none⟩) 0 0, x]) (hts : ts.toList = [sT, xT])
  (hu : P.underlying sT = some (.slice e)) (hux : P.underlying xT = some xd) (hi : isIntT xd = false) (hlen : lenOfV x = some m) (hz : szOf P e = some z) (hs : sourceCells S z m x = some new)
  (hnl : new.length = m * z) (hc : new.all cellV = true) (hgb : growB P e z = true) (hneed : m ≤ maxNeed)
  (h : ∀ aw tl S', RowT e aw m new tl → HoldG S0 [S0] S' (tl ++ l) [] → RE P K n ops (i + 1) ((d, .slice aw m m) :: L) S' Q) : RE P K n ops i L S Q := by
 obtain ⟨aw, tl, S', h1, h2, h3⟩ := append_stepS hl hts hu hux hi hlen hz hs hnl hc hgb hneed
 exact re_builtin ho hop hw hdst hlt rfl hx h1 (h aw tl S' h2 h3)
noncomputable def c34 : Code := Tryd.f34.body.getD .skip
theorem spec34 (a : Option Addr) (cap : Nat) (C : List Ev) (hn : C.length ≤ 3000) (hv : Evs S (.slice a C.length cap) C) : CC Tryd.prog KK 34 [.slice a C.length cap] S (fun v S' => Keep S S' ∧ ∃ aw tl, v = .slice aw C.length C.length ∧ TLe aw C tl ∧ HoldG S [S] S' tl []) := by
 refine cc_enter (c := c34) (n := 8) Tryd.func34 rfl rfl rfl (by kernel_rfl) rfl rfl ?_
 have hl := Hold.start S
 refine xs (by kernel_rfl) ?_; refine rm rfl ?_; refine re_end rfl ?_; refine xp_seq rfl ?_; refine xs (by kernel_rfl) ?_; refine rm rfl ?_; refine rr rfl (rd_bin rfl rfl rfl (eq_nil Tryd.underlying23)) ?_; refine re_end rfl ?_; refine xp_cond rfl rfl (fun h4 => ?_) (fun h4 => ?_)
 ·
  refine xs (by kernel_rfl) ?_; refine rm rfl ?_; refine re_end rfl ?_; refine xp_ret rfl ?_
  refine thn_ret (done_ret (ress_tmp rfl rfl) ⟨hl.keep, by obtain rfl := ls_none hv h4; exact ⟨none, [], rfl, .inl ⟨rfl, rfl, rfl⟩, hl⟩⟩)
 ·
  refine xp_skip rfl ?_; refine xs (by kernel_rfl) ?_; refine re_buildSliceB hl rfl rfl rfl rfl rfl Tryd.underlying23 rfl (c := []) (by kernel_rfl) ?_; intro B5 S1 hl; refine rm rfl ?_
  have hv' := hv.move (hl.since 0 rfl)
  refine re_appendS hl rfl rfl rfl rfl rfl rfl rfl Tryd.underlying23 Tryd.underlying23 rfl rfl (by kernel_rfl) (Evs.cells hv') (flat_len (f := Ev.cells) (z := 10) (fun _ => rfl) C) (flatCellE C) (by kernel_rfl) (by unfold maxNeed; omega) ?_; intro aw tl S1 hT hl; rw [List.append_nil] at hl
  refine rm rfl ?_; refine re_end rfl ?_; refine xp_ret rfl ?_
  refine done_ret (ress_tmp rfl rfl) ⟨hl.keep, ⟨_, _, rfl, TLe.of hT, hl⟩⟩
end Go.Proofs.YtlnenodplgpceaaDoor
namespace Go.Proofs.YtlnenodplgpceaaDoor
open Go.Cm Go
set_option maxRecDepth 100000
variable {S : St}
theorem setN_skip {a : Value} {z : List Value} {c : List Value} : ∀ (p : List Value) {k : Nat} {r : List Value}, setN k (a :: z) c = some r → setN (p.length + k) (a :: z) (p ++ c) = some (p ++ r)
 | [], k, r, h => by simpa using h
 | x :: p, k, r, h => by
  rw [show (x :: p).length + k = (p.length + k) + 1 by simp only [List.length_cons]; omega]
  have e := setN_skip p h
  simp only [List.cons_append, setN, e]
theorem setN_app0 : ∀ (z p g r : List Value), setN 0 z p = some g → setN 0 z (p ++ r) = some (g ++ r)
 | [], p, g, r, h => by
  have e : g = p := by cases p <;> (simp [setN] at h; first | exact h | exact h.symm)
  subst e
  cases hq : g ++ r <;> simp [setN]
 | a :: z, [], g, r, h => by simp [setN] at h
 | a :: z, x :: p, g, r, h => by
  simp only [setN] at h
  split at h
  ·rename_i e1
   have e := setN_app0 z p _ r e1
   cases h
   simp only [List.cons_append, setN, e]
  ·cases h
theorem setN_app {a : Value} {z : List Value} : ∀ (k : Nat) (p g r : List Value), setN k (a :: z) p = some g → setN k (a :: z) (p ++ r) = some (g ++ r)
 | 0, p, g, r, h => setN_app0 (a :: z) p g r h
 | k + 1, [], g, r, h => by simp [setN] at h
 | k + 1, x :: p, g, r, h => by
  simp only [setN] at h
  split at h
  ·rename_i e1
   have e := setN_app k p _ r e1
   cases h
   simp only [List.cons_append, setN, e]
  ·cases h
theorem setN_row {α : Type} {f : α → List Value} {z j : Nat} {a : Value} {w : List Value} (hz : ∀ x, (f x).length = z) {y : α} : ∀ (D : List α) (i : Nat) (x : α), nth D i = some x → setN j (a :: w) (f x) = some (f y) → setN (0 + i * z + j) (a :: w) ((D.map f).flatten) = some (((D.set i y).map f).flatten)
 | [], i, x, h, _ => by cases i <;> cases h
 | q :: D, 0, x, h, hs => by
  cases h
  rw [show 0 + 0 * z + j = j by omega]
  simpa only [List.map_cons, List.flatten_cons, List.set_cons_zero] using setN_app j (f q) (f y) ((D.map f).flatten) hs
 | q :: D, i + 1, x, h, hs => by
  have e := setN_skip (f q) (setN_row hz (y := y) D i x h hs)
  rw [hz q] at e
  rw [show 0 + (i + 1) * z + j = z + (0 + i * z + j) by rw [Nat.add_mul]; omega]
  exact e
theorem setN_rowI {α : Type} {f : α → List Value} {z j off : Nat} {k : Int} {a : Value} {w : List Value} (hz : ∀ x, (f x).length = z) {x y : α} {D : List α} {i : Nat} (hk : k = (i : Int)) (hx : nth D i = some x) (ho : off = 0 + k.toNat * z + j) (hs : setN j (a :: w) (f x) = some (f y)) : setN off (a :: w) ((D.map f).flatten) = some (((D.set i y).map f).flatten) := by
 subst hk; subst ho
 exact setN_row hz D i x hx hs
theorem own_mem {S0 S : St} {Ts : List St} {l : List (Nat × Blk)} {gs : List Gr} (hl : HoldG S0 Ts S l gs) {b e : Nat} {c : List Value} {own : Bool} {kin : List Nat} (hk : (b, Blk.cells c e true own kin) ∈ l) : RowAt S b e c := ⟨(hl.at_ b _ hk).2.2, own, kin, (hl.at_ b _ hk).1⟩
theorem nth_set_self {α : Type} : ∀ {D : List α} {i : Nat} {x : α}, i < D.length → nth (D.set i x) i = some x
 | [], _, _, h => by simp at h
 | y :: D, 0, x, _ => rfl
 | y :: D, i + 1, x, h => nth_set_self (D := D) (by simpa using h)
def Ev.put (x : Ev) (t : Ti) : Ev := ⟨t, x.dur, x.p, x.rest, x.sign, x.pass⟩
def dI (D : List Ev) (i : Nat) : Ev := (nth D i).getD e0
theorem dI_at {D : List Ev} {i : Nat} {x : Ev} (h : nth D i = some x) : dI D i = x := by unfold dI; rw [h]; rfl
def chN : Nat → List Ev → Nat → Ti → List Ev × Int
 | 0, D, _, _ => (D, 0)
 | n + 1, D, i, now => bif (addE now (dI D i).dur).2 != 0 then ([], (addE now (dI D i).dur).2) else chN n (D.set i ((dI D i).put now)) (i + 1) (addE now (dI D i).dur).1
def chnE (D : List Ev) : List Ev × Int := chN D.length D 0 zT
theorem chN_err {n : Nat} {D : List Ev} {i : Nat} {now : Ti} (h : ((addE now (dI D i).dur).2 != 0) = true) : chN (n + 1) D i now = ([], (addE now (dI D i).dur).2) := by rw [chN, h]; rfl
theorem chN_go {n : Nat} {D : List Ev} {i : Nat} {now : Ti} (h : ((addE now (dI D i).dur).2 != 0) = false) : chN (n + 1) D i now = chN n (D.set i ((dI D i).put now)) (i + 1) (addE now (dI D i).dur).1 := by rw [chN, h]; rfl
def WrE (Sb : St) (r : List (Nat × Blk)) (aw : Option Addr) (n : Nat) (q : List Ev × Int) (v : Value) (S' : St) : Prop :=
 ∃ tl, HoldG Sb [Sb] S' (r ++ tl) [] ∧ ((q.2 = 0 ∧ q.1.length = n ∧ v = tupV [.slice aw n n, .int .i64 0] ∧ TLe aw q.1 tl) ∨ ((q.2 != 0) = true ∧ v = tupV [.slice none 0 0, .int .i64 q.2]))
noncomputable def c35 : Code := Tryd.f35.body.getD .skip
theorem spec35 {Sb : St} (r : List (Nat × Blk)) (aw : Option Addr) (C : List Ev) (tl : List (Nat × Blk)) (hF : Fresh Sb) (hn : C.length ≤ 3000) (hT : TLe aw C tl) (hl : HoldG Sb [Sb] S (r ++ tl) []) : CC Tryd.prog KK 35 [.slice aw C.length C.length] S (fun v S' => WrE Sb r aw C.length (chnE C) v S') := by
 refine cc_enter (c := c35) (n := 35) Tryd.func35 rfl rfl rfl (by kernel_rfl) rfl rfl ?_; refine xs (by kernel_rfl) ?_; iterate 2 refine rm rfl ?_
 refine re_end rfl ?_; refine xs (by kernel_rfl) ?_; refine rr rfl (rd_build rfl rfl (v := aggL [.int .i64 0, .int .i64 1]) (by rfl)) ?_; refine re_allocL (l := r ++ tl) hl rfl rfl rfl rfl rfl (z := [.int .i64 0, .int .i64 0]) (by kernel_rfl) ?_; intro B4 S4 hl; refine re_storeL hl 0 rfl rfl rfl rfl rfl rfl rfl (by kernel_rfl) rfl ?_; intro S1 hl; refine re_end rfl ?_; refine xp_seq rfl ?_; refine xs (by kernel_rfl) ?_; refine rm rfl ?_; refine rr rfl (rd_len rfl rfl (len_slice Tryd.underlying23)) ?_; refine rm rfl ?_; refine re_end rfl ?_; refine xp_block rfl ?_
 -- LOOP
 refine xe_sub (L' := [(11, .int .i64 0), (10, .int .i64 C.length), (4, ptrTo B4 0), (3, .int .i64 0), (2, .slice none 0 0), (0, .slice aw C.length C.length)]) ⟨rfl, rfl, rfl, rfl, rfl, rfl, trivial⟩ ?_
 refine xp_loop rfl (fun m Le S' => ∃ (i : Nat) (D : List Ev) (now : Ti) (tl : List (Nat × Blk)), i ≤ C.length ∧ m = C.length - i ∧ D.length = C.length ∧ chN (C.length - i) D i now = chnE C ∧ TLe aw D tl ∧ SubE [(11, .int .i64 (i : Int)), (10, .int .i64 C.length), (4, ptrTo B4 0), (3, .int .i64 0), (2, .slice none 0 0), (0, .slice aw C.length C.length)] Le ∧ HoldG Sb [Sb] S' (((B4, .cells (Ti.cells now) 33 false true []) :: r) ++ tl) []) ?_ (m := C.length) ⟨0, C, zT, tl, by omega, rfl, rfl, rfl, hT, ⟨rfl, rfl, rfl, rfl, rfl, rfl, trivial⟩, hl⟩
 clear hl; rintro m Le S' ⟨i, D, now, tl, hi, rfl, hD, hch, hT, hsub, hl⟩; refine xe_sub hsub ?_
 refine xs (by kernel_rfl) ?_; refine rr rfl (rd_bin rfl rfl rfl rfl) ?_; refine re_end rfl ?_; refine xp_seq rfl ?_; refine xp_cond rfl rfl (fun h12 => ?_) (fun h12 => ?_)
 ·
  have hlt : i < C.length := by have := of_decide_eq_true h12; omega
  obtain ⟨b, ks, haw, rfl⟩ := hT.pos (by omega)
  obtain ⟨x, hx⟩ := nth_some (l := D) (i := i) (by omega)
  have hxd := dI_at hx
  rw [show C.length - i = (C.length - (i + 1)) + 1 by omega] at hch
  refine xp_skip rfl ?_; refine xp_seq rfl ?_; refine xp_block rfl ?_; refine xs (by kernel_rfl) ?_; iterate 2 refine rm rfl ?_
  refine re_end rfl ?_; refine xs (by kernel_rfl) ?_; iterate 2 refine rm rfl ?_
  refine rr rfl (rd_load rfl rfl (loadN_of (z := 2) (by kernel_rfl) (by kernel_rfl) (hl.get 0 rfl) rfl)) ?_; refine rr rfl (rd_indexAddr rfl rfl rfl (indexAddr_sl (z := 10) haw Tryd.underlying23 (by kernel_rfl) ⟨by omega, by omega⟩)) ?_; refine rr rfl (rd_fieldAddr rfl rfl (fa Tryd.underlying39 az39 rfl)) ?_; refine re_storeT ((B4, .cells (Ti.cells now) 33 false true []) :: r) hl rfl rfl rfl rfl rfl rfl (by kernel_rfl) (setN_rowI (f := Ev.cells) (z := 10) (j := 0) (fun _ => rfl) rfl hx (y := x.put now) rfl rfl) ?_; intro S1 hl
  have hx2 : nth (D.set i (x.put now)) i = some (x.put now) := nth_set_self (by omega)
  have hrow := own_mem (b := b) (e := 39) (c := (((D.set i (x.put now)).map Ev.cells).flatten)) (own := true) (kin := []) hl (List.mem_append.2 (.inr (List.mem_cons_self ..)))
  refine re_end rfl ?_; refine xp_seq rfl ?_; refine xp_draw (idx := [0, 1, 2, 3, 4, 5, 10, 6, 7, 8, 9, 11, 12]) rfl (by kernel_rfl) (by kernel_rfl) ?_; refine pk rfl (rd_load rfl rfl (loadN_of (z := 2) (by kernel_rfl) (by kernel_rfl) (hl.get 0 rfl) rfl)) ?_; iterate 2 refine pm rfl ?_
  refine pr rfl (rd_indexAddr rfl rfl rfl (indexAddr_sl (z := 10) haw Tryd.underlying23 (by kernel_rfl) ⟨by omega, by omega⟩)) ?_; refine pr rfl (rd_fieldAddr rfl rfl (fa Tryd.underlying39 az39 rfl)) ?_; refine pk rfl (rd_load rfl rfl (loadN_row (z := 2) (l := x.dur.cells) (by kernel_rfl) (by kernel_rfl) hrow (tk_part (j := 2) (l2 := x.dur.cells) (flat_take (f := Ev.cells) (fun _ => rfl) hx2) rfl))) ?_; refine rp_allocL hF hl rfl rfl rfl rfl rfl (z := [.int .i64 0, .int .i64 0]) (by kernel_rfl) ?_; intro B6 S6 hl
  refine rp_callL hl rfl rfl rfl rfl rfl rfl rfl (spec46 now x.dur (hl.keep.3 hF)) ?_; rintro v S1 hk1 rfl hl; refine ⟨by repeat (first | exact trivial | refine stays_left ?_ | (refine ⟨by first | exact stays_new rfl (hl.get 0 rfl) (sameL_atoms _ _ (by simp) (by repeat (first | exact atoms_nil | refine atoms_cons (atom_int _ _) ?_ | refine atoms_cons (atom_bool _) ?_ | refine atoms_cons (atom_slice _ _ _) ?_ | refine atoms_cons (atom_string _) ?_))) | exact stays_load rfl rfl (load1_of (by kernel_rfl) (hl.get 0 rfl) rfl) (same_atom (by first | exact atom_int _ _ | exact atom_bool _ | exact atom_slice _ _ _)) rfl | exact stays_no (by dsimp only; decide +kernel), ?_⟩)), ?_⟩
  iterate 3 refine pm rfl ?_
  refine rp_storeL hl 0 rfl rfl rfl rfl rfl rfl rfl (by kernel_rfl) rfl ?_; intro S1 hl; refine ⟨stays_all (by kernel_rfl), ?_⟩
  refine pm rfl ?_; refine rp_end rfl ?_; refine xp_seq rfl ?_; refine xs (by kernel_rfl) ?_; refine rm rfl ?_; refine rr rfl (rd_bin rfl rfl rfl rfl) ?_; refine re_end rfl ?_; refine xp_cond rfl rfl (fun h30 => ?_) (fun h30 => ?_)
  ·
   refine xs (by kernel_rfl) ?_; iterate 3 refine rm rfl ?_
   refine re_end rfl ?_; refine xp_ret rfl ?_
   rw [← hxd] at h30
   rw [chN_err h30] at hch
   refine thn_ret (blk_ret (thn_ret (round_ret (blk_ret (thn_ret (done_ret (ress_tmp rfl (ress_tmp rfl rfl)) ⟨_, (hl.tail.tail : HoldG Sb [Sb] _ (r ++ _) []), .inr (by rw [← hch]; exact ⟨h30, by rw [hxd]⟩)⟩))))))
  ·
   refine xp_skip rfl ?_; refine xg (by kernel_rfl) ?_; refine rr rfl (rd_load rfl rfl (loadN_of (z := 2) (by kernel_rfl) (by kernel_rfl) (hl.get 0 rfl) rfl)) ?_; refine re_storeL hl 1 rfl rfl rfl rfl rfl rfl rfl (by kernel_rfl) rfl ?_; intro S1 hl; refine re_end rfl ?_; refine xg (by kernel_rfl) ?_; refine rr rfl (rd_bin rfl rfl rfl (i6 (by omega))) ?_; refine rm rfl ?_; refine re_end rfl ?_
   rw [← hxd] at h30
   rw [chN_go h30, hxd] at hch
   exact ⟨C.length - (i + 1), by omega, i + 1, D.set i (x.put now), (addE now x.dur).1, _, by omega, rfl, by rw [List.length_set]; exact hD, hch, by rw [haw]; exact TLe.put, ⟨rfl, rfl, rfl, rfl, rfl, rfl, trivial⟩, hl.tail⟩
 ·
  refine xp_exit rfl ?_; refine xs (by kernel_rfl) ?_; iterate 3 refine rm rfl ?_
  refine re_end rfl ?_; refine xp_ret rfl ?_
  refine done_ret (ress_tmp rfl (ress_tmp rfl rfl)) ⟨tl, (hl.tail : HoldG Sb [Sb] _ (r ++ tl) []), .inl (by rw [← hch, show C.length - i = 0 by have := of_decide_eq_false h12; omega]; exact ⟨rfl, hD, rfl, hT⟩)⟩
end Go.Proofs.YtlnenodplgpceaaDoor

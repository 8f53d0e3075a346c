/-
  dissonance.treat. dissonance.all. dissonance.begin. dissonance.All. dissonance.Count. weigh.Of. ref01: gcd, Check. ref01: of, both, Add, Sub, Compare. ref03: Check, Number, Height. ref21: one, Check. Parts of slices. The plain law, 1.
-/
import Derived.Test.YtgiibikieblicaaGreatDoorSmC
namespace Go.Proofs.YtgiibikieblicaaGreatDoor
open Go.Cm Go
set_option maxRecDepth 100000
variable {S : St}
def trT (V : List (List Ev)) (L : List Sl) (M : List PD) (n mv hh : Nat) : Int := bif paB V mv (evI L n mv) then 1 else bif tuB V mv (evI L n mv) then 2 else bif suE V L M n mv hh (evI L n mv) (evI L n hh) then 3 else 4
def trE (V : List (List Ev)) (L : List Sl) (M : List PD) (n a b : Nat) : Int := bif stB V L n a == stB V L n b then 4 else bif stB V L n b then trT V L M n b a else trT V L M n a b
def isT (V : List (List Ev)) (L : List Sl) (M : List PD) (n mv hh : Nat) : Nat → Bool
 | 0 => paB V mv (evI L n mv)
 | 1 => tuB V mv (evI L n mv)
 | _ => suE V L M n mv hh (evI L n mv) (evI L n hh)
section
variable {V : List (List Ev)} {L : List Sl} {M : List PD} {n a b mv hh : Nat}
theorem tr_1 (h : (stB V L n a == stB V L n b) = true) : trE V L M n a b = 4 := by unfold trE; rw [h]; rfl
theorem tr_2 (h : (stB V L n a == stB V L n b) = false) (h2 : stB V L n b = true) : trE V L M n a b = trT V L M n b a := by unfold trE; rw [h, h2]; rfl
theorem tr_3 (h : (stB V L n a == stB V L n b) = false) (h2 : stB V L n b = false) : trE V L M n a b = trT V L M n a b := by unfold trE; rw [h, h2]; rfl
theorem tr_st (h : (stB V L n a == stB V L n b) = false) (h2 : stB V L n b = false) : stB V L n a = true := by
 cases h3 : stB V L n a with
 | true => rfl
 | false => rw [h2, h3] at h; cases h
theorem st_pos (h : stB V L n mv = true) : 0 ≤ evI L n mv := by
 unfold stB at h
 rw [Bool.and_eq_true] at h
 exact of_decide_eq_true h.1
theorem trT_at {q : Nat} (hq : q < 3) (h : isT V L M n mv hh q = true) (hf : ∀ j, j < q → isT V L M n mv hh j = false) : trT V L M n mv hh = 1 + (q : Int) := by
 unfold trT
 match q, hq with
 | 0, _ =>
  have h : paB V mv (evI L n mv) = true := h
  rw [h]; rfl
 | 1, _ =>
  have h0 : paB V mv (evI L n mv) = false := hf 0 (by decide)
  have h : tuB V mv (evI L n mv) = true := h
  rw [h0, h]; rfl
 | 2, _ =>
  have h0 : paB V mv (evI L n mv) = false := hf 0 (by decide)
  have h1 : tuB V mv (evI L n mv) = false := hf 1 (by decide)
  have h : suE V L M n mv hh (evI L n mv) (evI L n hh) = true := h
  rw [h0, h1, h]; rfl
theorem trT_no (hf : ∀ j, j < 3 → isT V L M n mv hh j = false) : trT V L M n mv hh = 4 := by
 unfold trT
 have h0 : paB V mv (evI L n mv) = false := hf 0 (by decide)
 have h1 : tuB V mv (evI L n mv) = false := hf 1 (by decide)
 have h2 : suE V L M n mv hh (evI L n mv) (evI L n hh) = false := hf 2 (by decide)
 rw [h0, h1, h2]; rfl
end
def fnI : Nat → Nat
 | 0 => 68
 | 1 => 69
 | _ => 70
theorem is_spec (bd : Nat) (aV aS aK : Option Addr) (cV cS cK : Nat) (V : List (List Ev)) (L : List Sl) (M : List PD) (n mv hh q : Nat) (hF : Fresh S) (hG : Gl S) (hd : KSet S bd aV aS aK cV cS cK V L M) (hnn : n < L.length) (hmv : mv < V.length) (hhh : hh < V.length) (h0 : 0 ≤ evI L n mv) (hil : evI L n mv < lenV V mv) (hkl : evI L n hh ≤ 10000) : CC Tryz.prog KK (fnI q) [ptrTo bd 0, aggL [.int .i64 (n : Int), .int .i64 (mv : Int), .int .i64 (hh : Int), .int .i64 (evI L n mv), .int .i64 (evI L n hh)]] S (fun v S' => Keep S S' ∧ v = .bool (isT V L M n mv hh q)) := by
 match q with
 | 0 => exact spec68 bd aV aS cV cS _ V L _ _ _ _ mv hF hG hd.d hmv h0 hil
 | 1 => exact spec69 bd aV aS cV cS _ V L _ _ _ _ mv hF hG hd.d hmv h0 hil
 | q + 2 => exact spec70 bd aV aS aK cV cS cK V L M n mv hh _ _ hF hG hd hnn hmv hhh (by have := hd.lo n hh; omega) hkl
noncomputable def cd48 : Code := Tryz.f48.body.getD .skip
theorem spec48 (bd : Nat) (aV aS aK : Option Addr) (cV cS cK : Nat) (V : List (List Ev)) (L : List Sl) (M : List PD) (n a b : Nat) (hF : Fresh S) (hG : Gl S) (hd : KSet S bd aV aS aK cV cS cK V L M) (hnn : n < L.length) (hav : a < V.length) (hbv : b < V.length) : CC Tryz.prog KK 48 [ptrTo bd 0, .int .i64 (n : Int), .int .i64 (a : Int), .int .i64 (b : Int)] S (fun v S' => Keep S S' ∧ v = .int .i64 (trE V L M n a b)) := by
 refine cc_enter (c := cd48) (n := 68) Tryz.func48 rfl rfl rfl (by kernel_rfl) rfl rfl ?_
 have hl := Hold.start S
 have hs := hd.d.set
 have hLL := hs.hL
 refine zg ?_
 refine zc hl rfl (spec67 bd aV aS cV cS (.slice aK M.length cK) V L n a (hd.d.keep hl.keep) hav hnn) ?_; rintro v S1 hk1 rfl hl
 refine zg ?_
 refine zc hl rfl (spec67 bd aV aS cV cS (.slice aK M.length cK) V L n b (hd.d.keep hl.keep) hbv hnn) ?_; rintro v S1 hk1 rfl hl
 refine zg ?_
 constructor <;> intro h24
 ·
  refine zg ?_
  exact (z1 rfl ⟨hl.keep, by rw [tr_1 h24] <;> rfl⟩)
 ·
  refine xp_skip rfl ?_; refine xp_seq rfl (xe_cut (fun Le S' => ∃ mv hh : Nat, mv < V.length ∧ hh < V.length ∧ stB V L n mv = true ∧ trE V L M n a b = trT V L M n mv hh ∧ SubE [(0, ptrTo bd 0), (8, .int .i64 0), (1, .int .i64 (n : Int)), (2, .int .i64 (mv : Int)), (3, .int .i64 (hh : Int))] Le ∧ HoldG S [S] S' [] []) ?_ ?_)
  ·
   refine zg ?_
   constructor <;> intro h25
   ·
    refine zg ?_
    exact ⟨rfl, b, a, hbv, hav, h25, tr_2 h24 h25, ⟨rfl, rfl, rfl, rfl, rfl, trivial⟩, hl⟩
   ·
    refine zg ?_
    exact ⟨rfl, a, b, hav, hbv, tr_st h24 h25, tr_3 h24 h25, ⟨rfl, rfl, rfl, rfl, rfl, trivial⟩, hl⟩
  clear hl; rintro Le3 S1 ⟨mv, hh, hmv, hhh, hst, htr, hsub3, hl⟩; refine xe_sub hsub3 ?_
  have h0 := st_pos hst
  obtain ⟨sq, hsnq⟩ := nth_some (l := L) (i := n) (by omega)
  obtain ⟨bq, oq, csq, awq, cwq, haq, _, hrowq, htkq, hivq⟩ := hs.sl.elem hsnq
  obtain ⟨hwlq, hwiq⟩ := hs.wf _ sq hsnq
  obtain ⟨imvq, himvq⟩ := nth_some (l := sq.ev) (i := mv) (by omega)
  obtain ⟨bmvq, omvq, csmvq, hamvq, _, hrowmvq, htkmvq⟩ := hivq.elem himvq
  have heimvq := evI_at hsnq himvq
  obtain ⟨ihhq, hihhq⟩ := nth_some (l := sq.ev) (i := hh) (by omega)
  obtain ⟨bhhq, ohhq, cshhq, hahhq, _, hrowhhq, htkhhq⟩ := hivq.elem hihhq
  have heihhq := evI_at hsnq hihhq
  obtain ⟨xm, hxm⟩ := nth_some hmv
  obtain ⟨xh, hxh⟩ := nth_some hhh
  have hil := hwiq mv imvq xm himvq hxm
  have hkl := hwiq hh ihhq xh hihhq hxh
  have hxl := hs.hV xh (nth_mem hxh)
  rw [← lenV_at hxm] at hil
  subst heimvq
  subst heihhq
  refine zg ?_; refine xp_draw (idx := [0, 1, 2, 3, 4, 5, 6, 7, 8, 9, 10, 11, 12, 13, 14, 15, 16, 17, 18, 19, 20, 21, 22, 23, 24, 25, 26, 27]) rfl (by kernel_rfl) (by kernel_rfl) ?_; refine zg ?_; refine pr rfl (rd_build rfl rfl (v := aggL [.int .i64 (n : Int), .int .i64 (mv : Int), .int .i64 (hh : Int), .int .i64 (evI L n mv), .int .i64 (evI L n hh)]) (by rfl)) ?_; refine rp_allocL hF hl rfl rfl rfl rfl rfl (z := [.int .i64 0, .int .i64 0, .int .i64 0, .int .i64 0, .int .i64 0]) (by kernel_rfl) ?_; intro B11 S11 hl
  refine rp_storeL hl 0 rfl rfl rfl rfl rfl rfl rfl (by kernel_rfl) rfl ?_; intro S1 hl; refine ⟨stays_all (by kernel_rfl), ?_⟩
  refine zg ?_; refine re_buildSliceR hl rfl rfl rfl rfl rfl Tryz.underlying146 rfl (c := [.func (.func 68) #[] #[], .func (.func 69) #[] #[], .func (.func 70) #[] #[]]) (by kernel_rfl) ?_; intro B54 Sr hr54 hl
  have hl := hl.mark
  refine zA ?_; refine xp_block rfl ?_
  -- LOOP
  refine xe_sub (L' := [(56, .int .i64 0), (55, .int .i64 3), (54, .slice (some ⟨B54, 0, none⟩) 3 3), (11, ptrTo B11 0), (8, .int .i64 0), (0, ptrTo bd 0)]) ⟨rfl, rfl, rfl, rfl, rfl, rfl, trivial⟩ ?_
  refine xp_loop rfl (fun m Le S' => ∃ q : Nat, q ≤ 3 ∧ m = 3 - q ∧ (∀ j, j < q → isT V L M n mv hh j = false) ∧ SubE [(56, .int .i64 (q : Int)), (55, .int .i64 3), (54, .slice (some ⟨B54, 0, none⟩) 3 3), (11, ptrTo B11 0), (8, .int .i64 0), (0, ptrTo bd 0)] Le ∧ HoldG S [Sr, S] S' [(B11, .cells [.int .i64 (n : Int), .int .i64 (mv : Int), .int .i64 (hh : Int), .int .i64 (evI L n mv), .int .i64 (evI L n hh)] 143 false true [])] []) ?_ (m := 3) ⟨0, by omega, rfl, fun j hj => absurd hj (Nat.not_lt_zero j), ⟨rfl, rfl, rfl, rfl, rfl, rfl, trivial⟩, hl⟩
  clear hl; rintro m Le S' ⟨q, hq, rfl, hf, hsub, hl⟩; refine xe_sub hsub ?_
  refine zg ?_
  constructor <;> intro h57
  ·
   have hq3 : q < 3 := by have := of_decide_eq_true h57; omega
   have hfq : nth ([.func (.func 68) #[] #[], .func (.func 69) #[] #[], .func (.func 70) #[] #[]] : List Value) (0 + ((q : Nat) : Int).toNat * 1) = some (.func (.func (fnI q)) #[] #[]) := by
    match q, hq3 with
    | 0, _ => rfl
    | 1, _ => rfl
    | 2, _ => rfl
   refine xp_skip rfl ?_; refine xp_seq rfl ?_; refine xp_block rfl ?_; refine xs (by kernel_rfl) ?_; refine rm rfl ?_; refine rr rfl (rd_indexAddr rfl rfl rfl (indexAddr_slice (z := 1) Tryz.underlying146 (by kernel_rfl) ⟨by omega, by omega⟩)) ?_; refine rr rfl (rd_load rfl rfl (l2 (row_move (hl.since 0 rfl) hr54) hfq)) ?_; iterate 2 refine rm rfl ?_
   refine re_end rfl ?_; refine xs (by kernel_rfl) ?_; iterate 2 refine rm rfl ?_
   refine rr rfl (rd_load rfl rfl (lN (z := 5) (hl.get 0 rfl) rfl)) ?_
   refine re_callL hl rfl rfl rfl rfl rfl rfl rfl (is_spec bd aV aS aK cV cS cK V L M n mv hh q (hl.keep.3 hF) (hG.keep hl.keep) (hd.keep hl.keep) hnn hmv hhh h0 hil (by omega)) ?_; rintro v S1 hk1 rfl hl
   refine zg ?_
   constructor <;> intro h64
   ·
    refine zg ?_
    refine blk_ret (thn_ret (round_ret (blk_ret ((z1 rfl ⟨hl.keep, by rw [htr, trT_at hq3 h64 hf] <;> rfl⟩)))))
   ·
    refine zg ?_
    exact ⟨3 - (q + 1), by omega, q + 1, by omega, rfl, fun j hj => (Nat.lt_succ_iff_lt_or_eq.1 hj).elim (hf j) (fun e => by rw [e]; exact h64), ⟨rfl, rfl, rfl, rfl, rfl, rfl, trivial⟩, hl⟩
  ·
   refine zg ?_
   refine y1 rfl ⟨hl.keep, by rw [htr, trT_no (fun j hj => hf j (by have := of_decide_eq_false h57; omega))] <;> rfl⟩
end Go.Proofs.YtgiibikieblicaaGreatDoor
namespace Go.Proofs.YtgiibikieblicaaGreatDoor
open Go.Cm Go
set_option maxRecDepth 100000
variable {S : St}
abbrev Mt4 := Int × Int × Int × Int
def kc4 (p : Mt4) : Value := aggL [.int .i64 p.1, .int .i64 p.2.1, .int .i64 p.2.2.1, .int .i64 p.2.2.2]
theorem kc4_eq (a b : Mt4) : eqV Tryz.prog eqDepth 112 (kc4 a) (kc4 b) = some (decide (a = b)) := by
 have h : eqV Tryz.prog 40 112 (aggL [.int .i64 a.1, .int .i64 a.2.1, .int .i64 a.2.2.1, .int .i64 a.2.2.2]) (aggL [.int .i64 b.1, .int .i64 b.2.1, .int .i64 b.2.2.1, .int .i64 b.2.2.2]) = _ :=
  eq_struct Tryz.underlying112 (by kernel_rfl) (eqFields_cons (by kernel_rfl) (part1 (by kernel_rfl) rfl) (part1 (by kernel_rfl) rfl) (eq_int Tryz.underlying3) (eqFields_cons (by kernel_rfl) (part1 (by kernel_rfl) rfl) (part1 (by kernel_rfl) rfl) (eq_int Tryz.underlying3) (eqFields_cons (by kernel_rfl) (part1 (by kernel_rfl) rfl) (part1 (by kernel_rfl) rfl) (eq_int Tryz.underlying3) (eqFields_cons (by kernel_rfl) (part1 (by kernel_rfl) rfl) (part1 (by kernel_rfl) rfl) (eq_int Tryz.underlying3) rfl))))
 refine h.trans (congrArg some ?_)
 obtain ⟨a1, a2, a3, a4⟩ := a
 obtain ⟨b1, b2, b3, b4⟩ := b
 rw [Bool.eq_iff_iff]
 simp
theorem kc4_ok (p : Mt4) : keyOk Tryz.prog 20 112 (kc4 p) = true := by
 show keyOk Tryz.prog (19 + 1) 112 (aggL [.int .i64 p.1, .int .i64 p.2.1, .int .i64 p.2.2.1, .int .i64 p.2.2.2]) = true
 kernel_rfl
theorem kc4_pl (p : Mt4) : plainKey 20 (kc4 p) = true := rfl
theorem kc4_sm (p : Mt4) : sameV 1000 (kc4 p) (kc4 p) = true := by
 show sameV (999 + 1) (.agg _) (.agg _) = true
 unfold sameV
 exact sameL_atoms _ 999 (by decide : 4 < 999) (atoms_cons (atom_int _ _) (atoms_cons (atom_int _ _) (atoms_cons (atom_int _ _) (atoms_cons (atom_int _ _) atoms_nil))))
structure Ds where
 n : Int
 a : Int
 b : Int
 k : Int
 t : Int
def Ds.cells (x : Ds) : List Value := [.int .i64 x.n, .int .i64 x.a, .int .i64 x.b, .int .i64 x.k, .int .i64 x.t]
abbrev MD := List (Mt4 × Int)
def keyE (L : List Sl) (n a b : Nat) : Mt4 := ((a : Int), evI L n a, (b : Int), evI L n b)
def skB (L : List Sl) (M : List PD) (n a b : Nat) (D : MD) : Bool := (clK M n a b == 0) || decide (lkI D (keyE L n a b) > 0)
def alS (V : List (List Ev)) (L : List Sl) (M : List PD) (n a b : Nat) (q : MD × List Ds) : MD × List Ds := bif skB L M n a b q.1 then q else (putI q.1 (keyE L n a b) ((n : Int) + 1), q.2 ++ [⟨n, a, b, clK M n a b, trE V L M n a b⟩])
def alB (V : List (List Ev)) (L : List Sl) (M : List PD) (n a : Nat) : Nat → Nat → MD × List Ds → MD × List Ds
 | 0, _, q => q
 | f + 1, b, q => alB V L M n a f (b + 1) (alS V L M n a b q)
def alA (V : List (List Ev)) (L : List Sl) (M : List PD) (n : Nat) : Nat → Nat → MD × List Ds → MD × List Ds
 | 0, _, q => q
 | f + 1, a, q => alA V L M n f (a + 1) (alB V L M n a (V.length - (a + 1)) (a + 1) q)
def alL (V : List (List Ev)) (L : List Sl) (M : List PD) : Nat → Nat → MD × List Ds → MD × List Ds
 | 0, _, q => q
 | f + 1, n, q => alL V L M f (n + 1) (alA V L M n V.length 0 q)
def dsE (V : List (List Ev)) (L : List Sl) (M : List PD) : List Ds := (alL V L M L.length 0 ([], [])).2
section
variable {V : List (List Ev)} {L : List Sl} {M : List PD} {n a b : Nat}
theorem alS_1 {D : MD} {O : List Ds} (h : skB L M n a b D = true) : alS V L M n a b (D, O) = (D, O) := by unfold alS; rw [h]; rfl
theorem alS_2 {D : MD} {O : List Ds} (h : skB L M n a b D = false) : alS V L M n a b (D, O) = (putI D (keyE L n a b) ((n : Int) + 1), O ++ [⟨n, a, b, clK M n a b, trE V L M n a b⟩]) := by unfold alS; rw [h]; rfl
theorem ds_end {S S' : St} {D : MD} {O : List Ds} {ao : Option Addr} {q : Nat} (hp : alL V L M (L.length - q) q (D, O) = alL V L M L.length 0 ([], [])) (h : L.length ≤ q) (hg : Grow S S' (gOf 66 5 Ds.cells (.slice ao O.length O.length) O)) : ∃ av, (tupV [.slice ao O.length O.length] : Value) = .slice av (dsE V L M).length (dsE V L M).length ∧ Grow S S' (gOf 66 5 Ds.cells (.slice av (dsE V L M).length (dsE V L M).length) (dsE V L M)) := by
 rw [show L.length - q = 0 by omega] at hp
 have e : dsE V L M = O := by unfold dsE; rw [← hp]; rfl
 rw [e]
 exact ⟨ao, rfl, hg⟩
end
noncomputable def cd35 : Code := Tryz.f35.body.getD .skip
theorem spec35 (bd : Nat) (aV aS aK : Option Addr) (cV cS cK : Nat) (V : List (List Ev)) (L : List Sl) (M : List PD)  (hF : Fresh S) (hG : Gl S) (hd : KSet S bd aV aS aK cV cS cK V L M) : CC Tryz.prog KK 35 [ptrTo bd 0] S (fun v S' => Keep S S' ∧ ∃ av, v = .slice av (dsE V L M).length (dsE V L M).length ∧ Grow S S' (gOf 66 5 Ds.cells (.slice av (dsE V L M).length (dsE V L M).length) (dsE V L M))) := by
 refine cc_enter (c := cd35) (n := 84) Tryz.func35 rfl rfl rfl (by kernel_rfl) rfl rfl ?_
 have hl := Hold.start S
 have hs := hd.d.set
 have hLL := hs.hL
 have hVn := hs.hn
 refine zg ?_; refine re_makeMapL hl kc4 rfl rfl rfl rfl rfl ?_; intro B11 S11 hl; refine zA ?_; refine zS ?_; refine xp_seq rfl ?_; refine zS ?_; refine xp_block rfl ?_
 -- LOOP
 have hl := hl.addG (g := gOf 66 5 Ds.cells (.slice none 0 0) ([] : List Ds)) (.inl ⟨rfl, rfl, rfl⟩)
 refine xe_sub (L' := [(17, .int .i64 0), (16, .int .i64 (L.length : Int)), (15, .slice aS L.length cS), (4, .slice none ([] : List Ds).length ([] : List Ds).length), (3, .map (some B11)), (2, .slice none 0 0), (0, ptrTo bd 0)]) ⟨rfl, rfl, rfl, rfl, rfl, rfl, rfl, trivial⟩ ?_
 refine xp_loop rfl (fun m Le S' => ∃ (n : Nat) (D : MD) (O : List Ds) (ao : Option Addr), n ≤ L.length ∧ m = L.length - n ∧ O.length ≤ 64 * n ∧ alL V L M (L.length - n) n (D, O) = alL V L M L.length 0 ([], []) ∧ SubE [(17, .int .i64 (n : Int)), (16, .int .i64 (L.length : Int)), (15, .slice aS L.length cS), (4, .slice ao O.length O.length), (3, .map (some B11)), (2, .slice none 0 0), (0, ptrTo bd 0)] Le ∧ HoldG S [S] S' [(B11, mapB kc4 (kD D))] [gOf 66 5 Ds.cells (.slice ao O.length O.length) O]) ?_ (m := L.length) ⟨0, [], [], none, by omega, rfl, by simp, rfl, ⟨rfl, rfl, rfl, rfl, rfl, rfl, rfl, trivial⟩, hl⟩
 clear hl; rintro m Le S' ⟨n, D0, O0, ao0, hn, rfl, hO0, hp0, hsub, hl⟩; refine xe_sub hsub ?_
 refine zg ?_
 constructor <;> intro h18
 ·
  have hnn : n < L.length := by have := of_decide_eq_true h18; omega
  obtain ⟨sq, hsnq⟩ := nth_some hnn
  obtain ⟨bq, oq, csq, awq, cwq, haq, _, hrowq, htkq, hivq⟩ := hs.sl.elem hsnq
  obtain ⟨hwlq, hwiq⟩ := hs.wf n sq hsnq
  rw [show L.length - n = (L.length - (n + 1)) + 1 by omega] at hp0
  refine zg ?_; refine re_allocL hl rfl rfl rfl rfl rfl (z := [.int .i64 0, .int .i64 0, .int .i64 0, .int .i64 0, .slice none 0 0]) (by kernel_rfl) ?_; intro B6 S6 hl; refine zg ?_; refine re_storeL hl 0 rfl rfl rfl rfl rfl rfl rfl (by kernel_rfl) rfl ?_; intro S1 hl; refine zA ?_; refine zS ?_; refine xp_block rfl ?_
  -- LOOP
  refine xe_sub (L' := [(25, .int .i64 0), (24, .int .i64 (sq.ev.length : Int)), (23, .slice awq sq.ev.length cwq), (5, .int .i64 (n : Int)), (6, ptrTo B6 0), (17, .int .i64 (n : Int)), (16, .int .i64 (L.length : Int)), (15, .slice aS L.length cS), (4, .slice ao0 O0.length O0.length), (3, .map (some B11)), (2, .slice none 0 0), (0, ptrTo bd 0)]) ⟨rfl, rfl, rfl, rfl, rfl, rfl, rfl, rfl, rfl, rfl, rfl, rfl, trivial⟩ ?_
  refine xp_loop rfl (fun m Le S' => ∃ (a : Nat) (D : MD) (O : List Ds) (ao : Option Addr), a ≤ V.length ∧ m = V.length - a ∧ O.length ≤ 64 * n + 8 * a ∧ alA V L M n (V.length - a) a (D, O) = alA V L M n V.length 0 (D0, O0) ∧ SubE [(25, .int .i64 (a : Int)), (24, .int .i64 (sq.ev.length : Int)), (23, .slice awq sq.ev.length cwq), (5, .int .i64 (n : Int)), (6, ptrTo B6 0), (17, .int .i64 (n : Int)), (16, .int .i64 (L.length : Int)), (15, .slice aS L.length cS), (4, .slice ao O.length O.length), (3, .map (some B11)), (2, .slice none 0 0), (0, ptrTo bd 0)] Le ∧ HoldG S [S] S' [(B6, .cells [.int .i64 sq.at_.n, .int .i64 sq.at_.d, .int .i64 sq.dur.n, .int .i64 sq.dur.d, .slice awq sq.ev.length cwq] 110 false true []), (B11, mapB kc4 (kD D))] [gOf 66 5 Ds.cells (.slice ao O.length O.length) O]) ?_ (m := V.length) ⟨0, D0, O0, ao0, by omega, rfl, by omega, rfl, ⟨rfl, rfl, rfl, rfl, rfl, rfl, rfl, rfl, rfl, rfl, rfl, rfl, trivial⟩, hl⟩
  clear hl; rintro m Le S' ⟨a, D1, O1, ao1, han, rfl, hO1, hp1, hsub2, hl⟩; refine xe_sub hsub2 ?_
  refine zg ?_
  constructor <;> intro h26
  ·
   have hav : a < V.length := by have := of_decide_eq_true h26; omega
   obtain ⟨iaq, hiaq⟩ := nth_some (l := sq.ev) (i := a) (by omega)
   obtain ⟨baq, oaq, csaq, haaq, _, hrowaq, htkaq⟩ := hivq.elem hiaq
   have heia := evI_at hsnq hiaq
   rw [show V.length - a = (V.length - (a + 1)) + 1 by omega] at hp1
   refine xp_skip rfl ?_; refine xp_seq rfl ?_; refine xp_block rfl ?_; iterate 2 refine zS ?_
   refine xp_block rfl ?_
   -- LOOP
   refine xe_sub (L' := [(9, .int .i64 ((a : Int) + 1)), (8, .int .i64 iaq), (7, .int .i64 (a : Int)), (25, .int .i64 (a : Int)), (24, .int .i64 (sq.ev.length : Int)), (23, .slice awq sq.ev.length cwq), (5, .int .i64 (n : Int)), (6, ptrTo B6 0), (17, .int .i64 (n : Int)), (16, .int .i64 (L.length : Int)), (15, .slice aS L.length cS), (4, .slice ao1 O1.length O1.length), (3, .map (some B11)), (2, .slice none 0 0), (0, ptrTo bd 0)]) ⟨rfl, rfl, rfl, rfl, rfl, rfl, rfl, rfl, rfl, rfl, rfl, rfl, rfl, rfl, rfl, trivial⟩ ?_
   refine xp_loop rfl (fun m Le S' => ∃ (b : Nat) (D : MD) (O : List Ds) (ao : Option Addr), a + 1 ≤ b ∧ b ≤ V.length ∧ m = V.length - b ∧ O.length ≤ 64 * n + 8 * a + b ∧ alB V L M n a (V.length - b) b (D, O) = alB V L M n a (V.length - (a + 1)) (a + 1) (D1, O1) ∧ SubE [(9, .int .i64 (b : Int)), (8, .int .i64 iaq), (7, .int .i64 (a : Int)), (25, .int .i64 (a : Int)), (24, .int .i64 (sq.ev.length : Int)), (23, .slice awq sq.ev.length cwq), (5, .int .i64 (n : Int)), (6, ptrTo B6 0), (17, .int .i64 (n : Int)), (16, .int .i64 (L.length : Int)), (15, .slice aS L.length cS), (4, .slice ao O.length O.length), (3, .map (some B11)), (2, .slice none 0 0), (0, ptrTo bd 0)] Le ∧ HoldG S [S] S' [(B6, .cells [.int .i64 sq.at_.n, .int .i64 sq.at_.d, .int .i64 sq.dur.n, .int .i64 sq.dur.d, .slice awq sq.ev.length cwq] 110 false true []), (B11, mapB kc4 (kD D))] [gOf 66 5 Ds.cells (.slice ao O.length O.length) O]) ?_ (m := V.length - (a + 1)) ⟨a + 1, D1, O1, ao1, by omega, by omega, rfl, by omega, rfl, ⟨rfl, rfl, rfl, rfl, rfl, rfl, rfl, rfl, rfl, rfl, rfl, rfl, rfl, rfl, rfl, trivial⟩, hl⟩
   clear hl; rintro m Le S' ⟨b, D, O, ao, hab, hbn, rfl, hO, hp, hsub3, hl⟩; refine xe_sub hsub3 ?_
   refine zg ?_
   constructor <;> intro h36
   ·
    have hbv : b < V.length := by have := of_decide_eq_true h36; omega
    obtain ⟨ibq, hibq⟩ := nth_some (l := sq.ev) (i := b) (by omega)
    obtain ⟨bbq, obq, csbq, habq, _, hrowbq, htkbq⟩ := hivq.elem hibq
    have heib := evI_at hsnq hibq
    have hke : keyE L n a b = ((a : Int), iaq, (b : Int), ibq) := by unfold keyE; rw [heia, heib]
    rw [show V.length - b = (V.length - (b + 1)) + 1 by omega] at hp
    refine zg ?_; refine rr rfl (rd_build rfl rfl (v := aggL [.int .i64 (a : Int), .int .i64 iaq, .int .i64 (b : Int), .int .i64 ibq]) (by rfl)) ?_; refine re_allocL hl rfl rfl rfl rfl rfl (z := [.int .i64 0, .int .i64 0, .int .i64 0, .int .i64 0]) (by kernel_rfl) ?_; intro B10 S10 hl; refine re_storeL hl 0 rfl rfl rfl rfl rfl rfl rfl (by kernel_rfl) rfl ?_; intro S1 hl; refine zA ?_; refine xp_seq rfl ?_; refine xp_seq rfl (xe_toE hl 59 (.bool (skB L M n a b D)) ?_ rfl ?_)
    ·
     refine zg ?_
     refine zc hl rfl (spec47 bd aV aS aK cV cS cK V L M n a b (hd.keep hl.keep) hnn) ?_; rintro v S1 hk1 rfl hl
     refine zg ?_; refine re_bool (d := 54) rfl (fun h54 => ?_) (fun h54 => ?_)
     ·
      refine zg ?_
      exact ⟨rfl, bl (by unfold skB; rw [hke, h54]; rfl), sB, hl⟩
     ·
      refine zg ?_; refine rr rfl (rd_lookup rfl rfl rfl ((lookup_of (k := ((a : Int), iaq, (b : Int), ibq)) Tryz.underlying108 (hl.get 2 rfl) kc4_eq (kc4_ok _) (z := .int .i64 0) (by kernel_rfl)).trans (congrArg some (kD_get D _)))) ?_; refine zg ?_
      exact ⟨rfl, bl (by unfold skB; rw [hke, h54]; rfl), sB, hl⟩
    intro S1 hl
    refine zg ?_
    constructor <;> intro h59
    ·
     refine zg ?_
     rw [alB, alS_1 h59] at hp
     exact ⟨V.length - (b + 1), by omega, b + 1, D, O, ao, by omega, by omega, rfl, by omega, hp, ⟨rfl, rfl, rfl, rfl, rfl, rfl, rfl, rfl, rfl, rfl, rfl, rfl, rfl, rfl, rfl, trivial⟩, hl.tail⟩
    ·
     refine zg ?_; refine re_mapUpdateL hl 2 (k := ((a : Int), iaq, (b : Int), ibq)) rfl rfl rfl rfl rfl rfl rfl rfl Tryz.underlying108 kc4_eq (kc4_ok _) (kc4_pl _) (kc4_sm _) ?_; intro S1 hl
     rw [kD_put, ← hke] at hl
     refine zg ?_
     refine zc hl rfl (spec47 bd aV aS aK cV cS cK V L M n a b (hd.keep hl.keep) hnn) ?_; rintro v S1 hk1 rfl hl
     refine zg ?_
     refine zc hl rfl (spec48 bd aV aS aK cV cS cK V L M n a b (hl.keep.3 hF) (hG.keep hl.keep) (hd.keep hl.keep) hnn hav hbv) ?_; rintro v S1 hk1 rfl hl
     refine rr rfl (rd_build rfl rfl (v := aggL [.int .i64 (n : Int), .int .i64 (a : Int), .int .i64 (b : Int), .int .i64 (clK M n a b), .int .i64 (trE V L M n a b)]) (by rfl)) ?_; refine re_buildSliceR hl rfl rfl rfl rfl rfl Tryz.underlying62 rfl (c := [.int .i64 (n : Int), .int .i64 (a : Int), .int .i64 (b : Int), .int .i64 (clK M n a b), .int .i64 (trE V L M n a b)]) (by kernel_rfl) ?_; intro B79 S1 hr79 hl
     refine re_appendG hl 0 rfl rfl (by simp) rfl rfl rfl rfl rfl rfl rfl Tryz.underlying62 Tryz.underlying62 rfl rfl (by kernel_rfl) (src_row (new := [.int .i64 (n : Int), .int .i64 (a : Int), .int .i64 (b : Int), .int .i64 (clK M n a b), .int .i64 (trE V L M n a b)]) hr79 rfl) rfl rfl (by kernel_rfl) (by show O.length + 1 ≤ maxNeed; unfold maxNeed; omega) ?_; intro v80 S1 hl
     obtain ⟨av3, rfl⟩ : ∃ av3, v80 = .slice av3 (O.length + 1) (O.length + 1) := Grow.is (hl.gr _ (List.mem_cons_self ..))
     refine zg ?_
     rw [alB, alS_2 h59] at hp
     refine ⟨V.length - (b + 1), by omega, b + 1, _, O ++ [⟨n, a, b, clK M n a b, trE V L M n a b⟩], av3, by omega, by omega, rfl, by rw [List.length_append]; show O.length + 1 ≤ _; omega, hp, ⟨rfl, rfl, rfl, rfl, rfl, rfl, rfl, rfl, rfl, rfl, rfl, congrArg some (congrArg (fun n => Value.slice av3 n n) (by rw [List.length_append]; rfl)), rfl, rfl, rfl, trivial⟩, ?_⟩
     rw [gOf_push]
     exact hl.tail
   ·
    refine zg ?_
    have hbe : V.length - b = 0 := by have := of_decide_eq_false h36; omega
    rw [hbe] at hp
    rw [alA, ← hp] at hp1
    exact ⟨V.length - (a + 1), by omega, a + 1, D, O, ao, by omega, rfl, by omega, hp1, ⟨rfl, rfl, rfl, rfl, rfl, rfl, rfl, rfl, rfl, rfl, rfl, rfl, trivial⟩, hl⟩
  ·
   refine zg ?_
   have hae : V.length - a = 0 := by have := of_decide_eq_false h26; omega
   rw [hae] at hp1
   rw [alL, ← hp1] at hp0
   exact ⟨L.length - (n + 1), by omega, n + 1, D1, O1, ao1, by omega, rfl, by omega, hp0, ⟨rfl, rfl, rfl, rfl, rfl, rfl, rfl, trivial⟩, hl.tail⟩
 ·
  refine zg ?_
  refine y1 rfl ⟨hl.keep, ds_end hp0 (by have := of_decide_eq_false h18; omega) (hl.gr _ (List.mem_cons_self ..))⟩
end Go.Proofs.YtgiibikieblicaaGreatDoor
namespace Go.Proofs.YtgiibikieblicaaGreatDoor
open Go.Cm Go
set_option maxRecDepth 100000
variable {S : St}
theorem ch_len {V : List (List Ev)} {L : List Sl} {n : Nat} : ∀ f v : Nat, (chI V L n f v).length ≤ f
 | 0, _ => Nat.le_refl _
 | f + 1, v => by
  cases h : chB V L n v with
  | true => rw [ch_1 h]; exact Nat.succ_le_succ (ch_len f (v + 1))
  | false => rw [ch_2 h]; exact Nat.le_succ_of_le (ch_len f (v + 1))
theorem clI_len {low x : Pt} {a : Nat} : ∀ (r : List Pt) (b : Nat), (clI low x a r b).length ≤ r.length
 | [], _ => Nat.le_refl _
 | y :: r, b => by
  cases h1 : decide ((b : Int) ≤ (a : Int)) with
  | true => rw [clI_1 h1]; exact Nat.le_succ_of_le (clI_len r (b + 1))
  | false =>
   cases h2 : clB low x y with
   | false => rw [clI_3 h1 h2]; exact Nat.le_succ_of_le (clI_len r (b + 1))
   | true => rw [clI_2 h1 h2]; exact Nat.succ_le_succ (clI_len r (b + 1))
theorem clO_len {low : Pt} {C : List Pt} : ∀ (r : List Pt) (a : Nat), (clO low C r a).length ≤ r.length * C.length
 | [], _ => Nat.zero_le _
 | x :: r, a => by
  rw [clO_step, List.length_append, List.length_cons, Nat.succ_mul]
  have h1 := clI_len (low := low) (x := x) (a := a) C 0
  have h2 := clO_len (low := low) (C := C) r (a + 1)
  omega
theorem cls_len {C : List Pt} (h : C.length ≤ 8) : (clsE C).1.length ≤ 64 := by
 cases h1 : (chkE C != 0) with
 | true => rw [cls_1 h1]; exact Nat.zero_le _
 | false =>
  rw [cls_2 h1]
  exact Nat.le_trans (clO_len C 0) (Nat.mul_le_mul h h)
theorem clI_bd {low x : Pt} {a : Nat} : ∀ (r : List Pt) (b : Nat) (c : Cl), c ∈ clI low x a r b → c.a = (a : Int) ∧ (b : Int) ≤ c.b ∧ c.b < ((b + r.length : Nat) : Int)
 | [], _, _, h => (List.not_mem_nil h).elim
 | y :: r, b, c, h => by
  have hr : c ∈ clI low x a r (b + 1) → c.a = (a : Int) ∧ (b : Int) ≤ c.b ∧ c.b < ((b + (r.length + 1) : Nat) : Int) := fun h => by
   obtain ⟨h1, h2, h3⟩ := clI_bd r (b + 1) c h
   exact ⟨h1, by omega, by omega⟩
  cases h1 : decide ((b : Int) ≤ (a : Int)) with
  | true => rw [clI_1 h1] at h; exact hr h
  | false =>
   cases h2 : clB low x y with
   | false => rw [clI_3 h1 h2] at h; exact hr h
   | true =>
    rw [clI_2 h1 h2] at h
    rcases List.mem_cons.1 h with rfl | h
    ·exact ⟨rfl, Int.le_refl _, by show (b : Int) < ((b + (r.length + 1) : Nat) : Int); omega⟩
    ·exact hr h
theorem clO_bd {low : Pt} {C : List Pt} : ∀ (r : List Pt) (a : Nat) (c : Cl), c ∈ clO low C r a → ((a : Int) ≤ c.a ∧ c.a < ((a + r.length : Nat) : Int)) ∧ 0 ≤ c.b ∧ c.b < (C.length : Int)
 | [], _, _, h => (List.not_mem_nil h).elim
 | x :: r, a, c, h => by
  rw [clO_step] at h
  rcases List.mem_append.1 h with h | h
  ·obtain ⟨h1, h2, h3⟩ := clI_bd C 0 c h
   rw [h1]
   exact ⟨⟨Int.le_refl _, by show (a : Int) < ((a + (r.length + 1) : Nat) : Int); omega⟩, by omega, by omega⟩
  ·obtain ⟨⟨h1, h2⟩, h3⟩ := clO_bd r (a + 1) c h
   exact ⟨⟨by omega, by show c.a < ((a + (r.length + 1) : Nat) : Int); omega⟩, h3⟩
theorem cls_bd {C : List Pt} {c : Cl} (h : c ∈ (clsE C).1) : (0 ≤ c.a ∧ c.a < (C.length : Int)) ∧ 0 ≤ c.b ∧ c.b < (C.length : Int) := by
 cases h1 : (chkE C != 0) with
 | true => rw [cls_1 h1] at h; exact (List.not_mem_nil h).elim
 | false =>
  rw [cls_2 h1] at h
  obtain ⟨⟨h1, h2⟩, h3⟩ := clO_bd C 0 c h
  exact ⟨⟨by omega, by omega⟩, h3⟩
def pdG (W : List Int) : List Cl → PD → PD
 | [], D => D
 | c :: r, D => pdG W r (putI D ((nth W c.a.toNat).getD 0, (nth W c.b.toNat).getD 0) c.k)
def pdE (V : List (List Ev)) (L : List Sl) (n : Nat) : PD := pdG ((chE V L n).map (·.1)) (clsE ((chE V L n).map (·.2))).1 []
def ksE (V : List (List Ev)) (L : List Sl) : List PD := (List.range L.length).map (pdE V L)
theorem ks_at {V : List (List Ev)} {L : List Sl} {k : Nat} {D : PD} (h : nth (ksE V L) k = some D) : D = pdE V L k := by
 unfold ksE at h
 obtain ⟨j, hj, rfl⟩ := nth_unmap2 h
 rw [nth_eq] at hj
 have := List.getElem?_range (n := L.length) (i := k) (by
  rcases Nat.lt_or_ge k L.length with h | h
  ·exact h
  ·rw [List.getElem?_eq_none (by simpa using h)] at hj; cases hj)
 rw [this] at hj
 cases hj
 rfl
theorem evs_lo (t : Ti) : ∀ (V : List (List Ev)) (A : List Nat) (i : Int), i ∈ evs V t A → -1 ≤ i
 | [], _, _, h => by unfold evs at h; simp at h
 | _ :: _, [], _, h => by unfold evs at h; simp at h
 | v :: V, k :: A, i, h => by
  unfold evs at h
  rw [List.zipWith_cons_cons] at h
  rcases List.mem_cons.1 h with rfl | h
  ·unfold hrE
   cases decide ((cmpE (endE v).1 t).1 ≤ 0) with
   | true => exact Int.le_refl _
   | false => show (-1 : Int) ≤ ((advE v t k : Nat) : Int); omega
  ·exact evs_lo t V A i h
theorem slG_lo {V : List (List Ev)} : ∀ (l : List Ti) (A : List Nat) (s : Sl), s ∈ (slG V l A).1 → ∀ i, i ∈ s.ev → -1 ≤ i
 | [], _, _, h => (List.not_mem_nil h).elim
 | [_], _, _, h => (List.not_mem_nil h).elim
 | t :: u :: r, A, s, h => by
  cases he : ((subE u t).2 != 0) with
  | true => rw [slG_1 he] at h; exact (List.not_mem_nil h).elim
  | false =>
   rw [slG_2 he] at h
   rcases List.mem_cons.1 h with rfl | h
   ·exact evs_lo t V A
   ·exact slG_lo (u :: r) (upd V t A) s h
theorem sls_lo {V : List (List Ev)} (n v : Nat) : -1 ≤ evI (slsE V).1 n v := by
 unfold evI
 cases hn : nth (slsE V).1 n with
 | none => exact Int.le_refl _
 | some s =>
  show -1 ≤ (nth s.ev v).getD (-1)
  cases hv : nth s.ev v with
  | none => exact Int.le_refl _
  | some i =>
   have hm := nth_mem hn
   have hi := nth_mem hv
   cases h1 : ((acE V).1 != 0) with
   | true => rw [sls_1 h1] at hm; exact (List.not_mem_nil hm).elim
   | false =>
    by_cases h2 : (slE V).2 = 0
    ·rw [sls_3 h1 h2] at hm; exact slG_lo _ _ s hm i hi
    ·rw [sls_2 h1 h2] at hm; exact (List.not_mem_nil hm).elim
theorem rp_mapUpdateL {κ : Type} [DecidableEq κ] {kc : κ → Value} {P : Program} {K : Known} {n : Nat} {L : Env} {S S0 : St} {Q : Post} {ops : List Oper} {o : Oper} {Ts : List St} {l : List (Nat × Blk)} {gs : List Gr} {bef : List Nat} {pl : List (Oper × Nat)} {q j : Nat} {E : List CkE} (hl : HoldG S0 Ts S l gs) (j0 : Nat) {t kt et : TypeId} {x y z : Operand} {M : Nat} {D : List (κ × Value)} {k : κ} {v : Value} (hk : nth l j0 = some (M, mapB kc D)) (ho : nth pl q = some (o, j)) (hop : o.op = .mapUpdate t x y z) (hw : wantE ops L o = some true) (hd : o.dst = none)
  (hx : Cm.evE L x = some (.map (some M))) (hy : Cm.evE L y = some (kc k)) (hz : Cm.evE L z = some v) (hu : P.underlying t = some (.map kt et)) (heq : ∀ a b, eqV P eqDepth kt (kc a) (kc b) = some (decide (a = b)))
  (hok : keyOk P 20 kt (kc k) = true) (hpl : plainKey 20 (kc k) = true) (hsame : sameV 1000 (kc k) (kc k) = true)
  (h : ∀ S', HoldG S0 Ts S' (putB j0 (mapB kc (putA D k v)) l) gs → Stays P n S' ((nth bef j).getD 0) E ∧ RP P K n ops bef pl (q + 1) (left ((nth bef j).getD 0) E) L S' Q) : RP P K n ops bef pl q E L S Q :=
 rp_heavy (v := undef) ho (by rw [hop]; rfl) hw hd (fun a ha => ⟨0, by rw [hop]; unfold stepOp; simp only [kindOf, heavyOp]; rw [ha.ev hx, ha.ev hy, ha.ev hz, mapUpdate_of hu (hl.get j0 hk) heq hok hpl hsame]⟩) (h _ (hl.put hk rfl _)).1 (h _ (hl.put hk rfl _)).2
def Kms (V : List (List Ev)) (L : List Sl) (ws : List Value) (ms : List (Nat × Blk)) : Prop := (ms.all fun p => !isRow p.2) = true ∧ ∀ j w, nth ws j = some w → ∃ r, w = .map (some r) ∧ (r, mapB kc2 (kD (pdE V L j))) ∈ ms
theorem nth_snoc {α : Type} {l : List α} {x y : α} {j : Nat} (h : nth (l ++ [x]) j = some y) : nth l j = some y ∨ (j = l.length ∧ y = x) := by
 rw [nth_eq] at h ⊢
 rw [List.getElem?_append] at h
 split at h
 ·exact .inl h
 ·rename_i hj
  right
  have e : j - l.length = 0 := by
   rcases Nat.eq_zero_or_pos (j - l.length) with h0 | h0
   ·exact h0
   ·rw [List.getElem?_eq_none (by simp; omega)] at h; cases h
  rw [e] at h
  cases h
  exact ⟨by omega, rfl⟩
theorem Kms.push {V : List (List Ev)} {L : List Sl} {ws : List Value} {ms : List (Nat × Blk)} {B : Nat} (h : Kms V L ws ms) : Kms V L (ws ++ [.map (some B)]) ((B, mapB kc2 (kD (pdE V L ws.length))) :: ms) := by
 refine ⟨by rw [List.all_cons, h.1]; rfl, fun j w hw => ?_⟩
 rcases nth_snoc hw with hw | ⟨rfl, rfl⟩
 ·obtain ⟨r, e1, e2⟩ := h.2 j w hw
  exact ⟨r, e1, List.mem_cons_of_mem _ e2⟩
 ·exact ⟨B, rfl, List.mem_cons_self ..⟩
theorem Kms.kds {V : List (List Ev)} {L : List Sl} {ws : List Value} {ms l : List (Nat × Blk)} {aK : Option Addr} {S0 S : St} {Ts : List St} {gs : List Gr} (h : Kms V L ws ms) (hl : HoldG S0 Ts S l gs) (hm : ∀ p, p ∈ ms → p ∈ l) (hn : ws.length = L.length) (hg : LsOf 104 1 (fun w => [w]) S (.slice aK ws.length ws.length) ws) : Kds S (.slice aK (ksE V L).length ws.length) (ksE V L) := by
 have he : (ksE V L).length = ws.length := by unfold ksE; rw [List.length_map, List.length_range, hn]
 rw [he]
 refine ⟨ws, hg, he.symm, fun k w D h1 h2 => ?_⟩
 obtain ⟨r, rfl, hr⟩ := h.2 k w h1
 rw [ks_at h2]
 obtain ⟨e1, _, e3⟩ := hl.at_ _ _ (hm _ hr)
 exact ⟨r, rfl, e3, e1⟩
def BeR (S' : St) (aV : Option Addr) (cV : Nat) (V : List (List Ev)) (v : Value) : Prop := (((slsE V).2 != 0) = true ∧ v = tupV [.pointer none, .int .i64 (slsE V).2]) ∨ (((slsE V).2 != 0) = false ∧ ∃ bd aS aK cS cK, v = tupV [ptrTo bd 0, .int .i64 0] ∧ KSet S' bd aV aS aK cV cS cK V (slsE V).1 (ksE V (slsE V).1))
noncomputable def cd34 : Code := Tryz.f34.body.getD .skip
theorem spec34 (aV : Option Addr) (cV : Nat) (V : List (List Ev)) (hF : Fresh S) (hG : Gl S) (hv : Vs S (.slice aV V.length cV) V) : CC Tryz.prog KK 34 [.slice aV V.length cV] S (fun v S' => Keep S S' ∧ BeR S' aV cV V v) := by
 refine cc_enter (c := cd34) (n := 77) Tryz.func34 rfl rfl rfl (by kernel_rfl) rfl rfl ?_
 have hl := Hold.start S
 refine zg ?_
 refine zc hl rfl (spec39 aV cV V (hl.keep.3 hF) (hv.move (hl.since 0 rfl))) ?_; rintro v Sm hk1 ⟨w, rfl, hs⟩ hl; have hl := hl.mark; obtain ⟨aS, cS, rfl⟩ := Sls.is hs; obtain ⟨L, hLd⟩ : ∃ L, L = (slsE V).1 := ⟨_, rfl⟩; rw [← hLd] at hs ⊢
 refine zg ?_
 constructor <;> intro h21
 ·
  refine zg ?_
  exact (z2 rfl rfl ⟨hl.keep, .inl ⟨h21, rfl⟩⟩)
 ·
  obtain ⟨hn, hV⟩ := ac_ok (sls_e h21)
  have hLL := sls_len hn hV
  have hwf : WF V L := by rw [hLd]; exact sls_wf
  rw [← hLd] at hLL
  have hset : SetAt Sm aV aS cV cS V L := ⟨hv.move hk1.rk, hs, hwf, hn, hV, hLL⟩
  refine zg ?_; refine rr rfl (rd_build rfl rfl (v := aggL [.slice aV V.length cV, .slice aS L.length cS, .slice none 0 0]) (by rfl)) ?_; refine re_boxL hl rfl rfl rfl rfl rfl rfl ?_; intro B26 S26 hl; refine zA ?_; refine xp_seq rfl ?_; refine zS ?_; refine xp_block rfl ?_
  -- LOOP
  have hl := hl.addG (g := gOf 104 1 (fun w => [w]) (.slice none 0 0) ([] : List Value)) (.inl ⟨rfl, rfl, rfl⟩)
  refine xe_sub (L' := [(29, .int .i64 0), (28, .int .i64 (L.length : Int)), (6, ptrTo B26 0), (3, .int .i64 0), (2, .pointer none)]) ⟨rfl, rfl, rfl, rfl, rfl, trivial⟩ ?_
  refine xp_loop rfl (fun m Le S' => ∃ (n : Nat) (ws : List Value) (ms : List (Nat × Blk)) (aK : Option Addr), n ≤ L.length ∧ m = L.length - n ∧ ws.length = n ∧ Kms V L ws ms ∧ SubE [(29, .int .i64 (n : Int)), (28, .int .i64 (L.length : Int)), (6, ptrTo B26 0), (3, .int .i64 0), (2, .pointer none)] Le ∧ HoldG S [Sm, S] S' ((B26, .cells [.slice aV V.length cV, .slice aS L.length cS, .slice aK ws.length ws.length] 97 false true []) :: ms) [gOf 104 1 (fun w => [w]) (.slice aK ws.length ws.length) ws]) ?_ (m := L.length) ⟨0, [], [], none, by omega, rfl, rfl, ⟨rfl, fun j w h => by cases j <;> cases h⟩, ⟨rfl, rfl, rfl, rfl, rfl, trivial⟩, hl⟩
  clear hl; rintro m Le S' ⟨n, ws, ms, aK, hnL, rfl, hws, hms, hsub, hl⟩; refine xe_sub hsub ?_
  refine zg ?_
  constructor <;> intro h30
  ·
   have hnn : n < L.length := by have := of_decide_eq_true h30; omega
   have hd : DSet _ B26 aV aS cV cS (.slice aK ws.length ws.length) V L := ⟨(hl.at_ B26 _ (nth_mem (k := 0) rfl)).2.2, hl.get 0 rfl, hset.move (hl.since 0 rfl)⟩
   refine zg ?_
   refine zc hl rfl (spec45 B26 aV aS cV cS (.slice aK ws.length ws.length) V L n hd hnn) ?_; rintro v Sc hk2 ⟨w1, w2, rfl, hw1, hw2⟩ hl; have hl := hl.mark; obtain ⟨W, hWd⟩ : ∃ W, W = (chE V L n).map (·.1) := ⟨_, rfl⟩; obtain ⟨P, hPd⟩ : ∃ P, P = (chE V L n).map (·.2) := ⟨_, rfl⟩; rw [← hWd] at hw1; rw [← hPd] at hw2; obtain ⟨a1, c1, rfl⟩ := LsOf.is hw1; obtain ⟨a2, c2, rfl⟩ := LsOf.is hw2
   refine zg ?_
   refine zc hl rfl (spec46 a2 c2 _ (hl.keep.3 hF) (hG.keep hl.keep) (hw2.move (hl.since 0 rfl))) ?_; rintro v Sd hk3 ⟨a3, rfl, hg3⟩ hl; have hl := hl.mark; obtain ⟨K, hKd⟩ : ∃ K, K = (clsE P).1 := ⟨_, rfl⟩; rw [← hKd] at hg3 ⊢; have hcl := Grow.ls (f := Cl.cells) (fun _ => rfl) hg3; have hpd : pdE V L n = pdG W K [] := by unfold pdE; rw [← hWd, ← hPd, ← hKd]
   have hKl : K.length ≤ 64 := by rw [hKd]; exact cls_len (by rw [hPd, List.length_map]; exact Nat.le_trans (ch_len V.length 0) hn)
   refine zg ?_; refine re_makeMapL hl kc2 rfl rfl rfl rfl rfl ?_; intro B43 S43 hl; refine zA ?_; refine xp_seq rfl ?_; refine zS ?_; refine xp_block rfl ?_
   -- LOOP
   refine xe_sub (L' := [(46, .int .i64 0), (45, .int .i64 (K.length : Int)), (44, .slice a3 K.length K.length), (12, .map (some B43)), (8, .slice a1 W.length c1), (29, .int .i64 (n : Int)), (28, .int .i64 (L.length : Int)), (6, ptrTo B26 0), (3, .int .i64 0), (2, .pointer none)]) ⟨rfl, rfl, rfl, rfl, rfl, rfl, rfl, rfl, rfl, rfl, trivial⟩ ?_
   refine xp_loop rfl (fun m Le S' => ∃ (j : Nat) (D : PD), j ≤ K.length ∧ m = K.length - j ∧ pdG W (K.drop j) D = pdE V L n ∧ SubE [(46, .int .i64 (j : Int)), (45, .int .i64 (K.length : Int)), (44, .slice a3 K.length K.length), (12, .map (some B43)), (8, .slice a1 W.length c1), (29, .int .i64 (n : Int)), (28, .int .i64 (L.length : Int)), (6, ptrTo B26 0), (3, .int .i64 0), (2, .pointer none)] Le ∧ HoldG S [Sd, Sc, Sm, S] S' ((B43, mapB kc2 (kD D)) :: (B26, .cells [.slice aV V.length cV, .slice aS L.length cS, .slice aK ws.length ws.length] 97 false true []) :: ms) [gOf 104 1 (fun w => [w]) (.slice aK ws.length ws.length) ws]) ?_ (m := K.length) ⟨0, [], by omega, rfl, hpd.symm, ⟨rfl, rfl, rfl, rfl, rfl, rfl, rfl, rfl, rfl, rfl, trivial⟩, hl⟩
   clear hl; rintro m Le S' ⟨j, D, hj, rfl, hD, hsub2, hl⟩; refine xe_sub hsub2 ?_
   refine zg ?_
   constructor <;> intro h47
   ·
    have hjl : j < K.length := by have := of_decide_eq_true h47; omega
    obtain ⟨c, hc⟩ := nth_some hjl
    obtain ⟨b4, o4, cs4, ha4, _, hrow4, htk4⟩ := hcl.elem hc
    have hbd := cls_bd (C := P) (by rw [← hKd]; exact nth_mem hc)
    have hlW : W.length = P.length := by rw [hWd, hPd, List.length_map, List.length_map]
    obtain ⟨wa, hwa⟩ := nth_some (l := W) (i := c.a.toNat) (by omega)
    obtain ⟨wb, hwb⟩ := nth_some (l := W) (i := c.b.toNat) (by omega)
    obtain ⟨b5, o5, cs5, ha5, _, hrow5, htk5⟩ := hw1.elem hwa
    obtain ⟨b6, o6, cs6, ha6, _, hrow6, htk6⟩ := hw1.elem hwb
    rw [drop_nth' hc] at hD
    rw [pdG, hwa, hwb] at hD
    refine zg ?_; refine re_allocL hl rfl rfl rfl rfl rfl (z := [.int .i64 0, .int .i64 0, .int .i64 0]) (by kernel_rfl) ?_; intro B14 S14 hl; refine re_storeL hl 0 rfl rfl rfl rfl rfl rfl rfl (by kernel_rfl) rfl ?_; intro S1 hl; refine zg ?_; refine xp_draw (idx := [0, 1, 2, 3, 4, 5, 6, 7, 8, 9, 10, 11, 12, 13, 14]) rfl (by kernel_rfl) (by kernel_rfl) ?_; refine zg ?_; refine pr rfl (rd_build rfl rfl (v := aggL [.int .i64 wa, .int .i64 wb]) (by rfl)) ?_; refine zg ?_
    refine rp_mapUpdateL hl 1 (k := (wa, wb)) rfl rfl rfl rfl rfl rfl rfl rfl Tryz.underlying104 kc2_eq (kc2_ok _) (kc2_pl _) (kc2_sm _) ?_; intro S1 hl; refine ⟨stays_all (by kernel_rfl), ?_⟩
    rw [kD_put] at hl
    refine zg ?_
    exact ⟨K.length - (j + 1), by omega, j + 1, _, by omega, rfl, hD, ⟨rfl, rfl, rfl, rfl, rfl, rfl, rfl, rfl, rfl, rfl, trivial⟩, hl.tail⟩
   ·
    have hje : K.length ≤ j := by have := of_decide_eq_false h47; omega
    rw [List.drop_eq_nil_of_le hje] at hD
    obtain rfl : D = pdE V L n := hD
    refine zg ?_; refine re_buildSliceR hl rfl rfl rfl rfl rfl Tryz.underlying95 rfl (c := [Value.map (some B43)]) (by kernel_rfl) ?_; intro B71 S1 hr71 hl; refine re_appendG hl 0 rfl (by show (true && (true && _)) = true; rw [hms.1]; rfl) (by simp) rfl rfl rfl rfl rfl rfl rfl Tryz.underlying95 Tryz.underlying95 rfl rfl (by kernel_rfl) (src_row (new := [Value.map (some B43)]) hr71 rfl) rfl rfl (by kernel_rfl) (by show ws.length + 1 ≤ maxNeed; unfold maxNeed; omega) ?_; intro v72 S1 hl
    obtain ⟨av3, rfl⟩ : ∃ av3, v72 = .slice av3 (ws.length + 1) (ws.length + 1) := Grow.is (hl.gr _ (List.mem_cons_self ..))
    refine zg ?_; refine re_storeL hl 1 rfl rfl rfl rfl rfl rfl rfl (by kernel_rfl) rfl ?_; intro S1 hl; refine zg ?_
    refine ⟨L.length - (n + 1), by omega, n + 1, ws ++ [.map (some B43)], (B43, mapB kc2 (kD (pdE V L n))) :: ms, av3, by omega, rfl, by rw [List.length_append, hws]; rfl, by have := hms.push (B := B43); rw [hws] at this; exact this, ⟨rfl, rfl, rfl, rfl, rfl, trivial⟩, ?_⟩
    rw [gOf_push, List.length_append]
    exact (hl.marks (fun T hT => List.mem_cons_of_mem _ (List.mem_cons_of_mem _ hT))).perm (List.Perm.swap ..)
  ·
   refine zg ?_
   have hnE : n = L.length := by have := of_decide_eq_false h30; omega
   refine y2 rfl rfl ⟨hl.keep, .inr ⟨h21, by rw [← hLd]; exact ⟨B26, aS, aK, cS, ws.length, rfl, ⟨⟨(hl.at_ B26 _ (nth_mem (k := 0) rfl)).2.2, by rw [show (ksE V L).length = ws.length by unfold ksE; rw [List.length_map, List.length_range]; omega]; exact hl.get 0 rfl, hset.move (hl.since 0 rfl)⟩, hms.kds hl (fun p hp => List.mem_cons_of_mem _ hp) (by omega) (Grow.ls (f := fun w => [w]) (fun _ => rfl) (hl.gr _ (List.mem_cons_self ..))), by unfold ksE; rw [List.length_map, List.length_range], by rw [hLd]; exact sls_lo⟩⟩⟩⟩
end Go.Proofs.YtgiibikieblicaaGreatDoor
namespace Go.Proofs.YtgiibikieblicaaGreatDoor
open Go.Cm Go
set_option maxRecDepth 100000
variable {S : St}
theorem BeR.is {S' : St} {aV : Option Addr} {cV : Nat} {V : List (List Ev)} {v : Value} (h : BeR S' aV cV V v) : ∃ w, v = tupV [w, .int .i64 (slsE V).2] ∧ (((slsE V).2 != 0) = false → ∃ bd aS aK cS cK, w = ptrTo bd 0 ∧ KSet S' bd aV aS aK cV cS cK V (slsE V).1 (ksE V (slsE V).1)) := by
 rcases h with ⟨h1, rfl⟩ | ⟨h1, bd, aS, aK, cS, cK, rfl, hk⟩
 ·exact ⟨_, rfl, fun h => by rw [h1] at h; cases h⟩
 ·have e : (slsE V).2 = 0 := by simpa using h1
  exact ⟨_, by rw [e], fun _ => ⟨bd, aS, aK, cS, cK, rfl, hk⟩⟩
def DsOk (q : MD × List Ds) (k : Nat) : Prop := q.2.length ≤ k ∧ ∀ x, x ∈ q.2 → 1 ≤ x.t ∧ x.t ≤ 4
section
variable {V : List (List Ev)} {L : List Sl} {M : List PD}
theorem trT_bd {n mv hh : Nat} : 1 ≤ trT V L M n mv hh ∧ trT V L M n mv hh ≤ 4 := by
 unfold trT
 cases paB V mv (evI L n mv) <;> cases tuB V mv (evI L n mv) <;> cases suE V L M n mv hh (evI L n mv) (evI L n hh) <;> decide
theorem trE_bd {n a b : Nat} : 1 ≤ trE V L M n a b ∧ trE V L M n a b ≤ 4 := by
 unfold trE
 cases stB V L n a == stB V L n b with
 | true => show (1 : Int) ≤ 4 ∧ (4 : Int) ≤ 4; decide
 | false =>
  cases stB V L n b with
  | true => exact trT_bd
  | false => exact trT_bd
theorem alS_ok {n a b : Nat} {q : MD × List Ds} {k : Nat} (h : DsOk q k) : DsOk (alS V L M n a b q) (k + 1) := by
 obtain ⟨D, O⟩ := q
 obtain ⟨h1, h2⟩ := h
 cases hs : skB L M n a b D with
 | true => rw [alS_1 hs]; exact ⟨Nat.le_succ_of_le h1, h2⟩
 | false =>
  rw [alS_2 hs]
  refine ⟨by show (O ++ [_]).length ≤ _; rw [List.length_append]; exact Nat.succ_le_succ h1, fun x hx => ?_⟩
  rcases List.mem_append.1 hx with hx | hx
  ·exact h2 x hx
  ·rw [List.mem_singleton.1 hx]; exact trE_bd
theorem alB_ok {n a : Nat} : ∀ (f b : Nat) (q : MD × List Ds) (k : Nat), DsOk q k → DsOk (alB V L M n a f b q) (k + f)
 | 0, _, _, _, h => h
 | f + 1, b, q, k, h => by
  rw [alB, show k + (f + 1) = k + 1 + f by omega]
  exact alB_ok f (b + 1) _ _ (alS_ok h)
theorem DsOk.mono {q : MD × List Ds} {k j : Nat} (h : DsOk q k) (hk : k ≤ j) : DsOk q j := ⟨Nat.le_trans h.1 hk, h.2⟩
theorem alA_ok {n : Nat} (hV : V.length ≤ 8) : ∀ (f a : Nat) (q : MD × List Ds) (k : Nat), DsOk q k → DsOk (alA V L M n f a q) (k + 8 * f)
 | 0, _, _, _, h => h
 | f + 1, a, q, k, h => by
  rw [alA]
  exact (alA_ok hV f (a + 1) _ (k + 8) ((alB_ok _ _ _ _ h).mono (by omega))).mono (by omega)
theorem alL_ok (hV : V.length ≤ 8) : ∀ (f n : Nat) (q : MD × List Ds) (k : Nat), DsOk q k → DsOk (alL V L M f n q) (k + 64 * f)
 | 0, _, _, _, h => h
 | f + 1, n, q, k, h => by
  rw [alL]
  exact (alL_ok hV f (n + 1) _ (k + 64) ((alA_ok hV _ _ _ _ h).mono (by omega))).mono (by omega)
theorem dsE_ok (hV : V.length ≤ 8) (hL : L.length ≤ 20000) : (dsE V L M).length ≤ 1280000 ∧ ∀ x, x ∈ dsE V L M → 1 ≤ x.t ∧ x.t ≤ 4 := by
 have h := alL_ok (L := L) (M := M) hV L.length 0 ([], []) 0 ⟨Nat.le_refl _, fun x hx => (List.not_mem_nil hx).elim⟩
 exact ⟨Nat.le_trans h.1 (by omega), h.2⟩
end
def dsA (V : List (List Ev)) : List Ds × Int := bif (slsE V).2 != 0 then ([], (slsE V).2) else (dsE V (slsE V).1 (ksE V (slsE V).1), 0)
theorem dsA_1 {V : List (List Ev)} (h : ((slsE V).2 != 0) = true) : dsA V = ([], (slsE V).2) := by unfold dsA; rw [h]; rfl
theorem dsA_2 {V : List (List Ev)} (h : ((slsE V).2 != 0) = false) : dsA V = (dsE V (slsE V).1 (ksE V (slsE V).1), 0) := by unfold dsA; rw [h]; rfl
theorem dsA_ok {V : List (List Ev)} : (dsA V).1.length ≤ 1280000 ∧ ∀ x, x ∈ (dsA V).1 → 1 ≤ x.t ∧ x.t ≤ 4 := by
 cases h1 : ((slsE V).2 != 0) with
 | true => rw [dsA_1 h1]; exact ⟨Nat.zero_le _, fun x hx => (List.not_mem_nil hx).elim⟩
 | false =>
  obtain ⟨hn, hV⟩ := ac_ok (sls_e h1)
  rw [dsA_2 h1]
  exact dsE_ok hn (sls_len hn hV)
def upC (O : List Int) (x : Ds) : List Int := O.set (x.t - 1).toNat ((nth O (x.t - 1).toNat).getD 0 + 1)
def cntG : List Ds → List Int → List Int
 | [], O => O
 | x :: r, O => cntG r (upC O x)
def COk (O : List Int) (k : Nat) : Prop := O.length = 4 ∧ ∀ c, c ∈ O → 0 ≤ c ∧ c ≤ (k : Int)
theorem COk.up {O : List Int} {k : Nat} {x : Ds} (h : COk O k) : COk (upC O x) (k + 1) := by
 unfold upC
 refine ⟨by rw [List.length_set]; exact h.1, fun c hc => ?_⟩
 rcases List.mem_or_eq_of_mem_set hc with hc | rfl
 ·have := h.2 c hc
  exact ⟨this.1, by omega⟩
 ·cases hn : nth O (x.t - 1).toNat with
  | none => show 0 ≤ (0 : Int) + 1 ∧ (0 : Int) + 1 ≤ _; omega
  | some d =>
   have := h.2 d (nth_mem hn)
   show 0 ≤ d + 1 ∧ d + 1 ≤ _
   omega
theorem cntG_ok : ∀ (r : List Ds) (O : List Int) (k : Nat), COk O k → COk (cntG r O) (k + r.length)
 | [], _, _, h => h
 | x :: r, O, k, h => by
  rw [cntG, List.length_cons, show k + (r.length + 1) = k + 1 + r.length by omega]
  exact cntG_ok r _ _ h.up
def z4 : List Int := [0, 0, 0, 0]
theorem z4_ok : COk z4 0 := ⟨rfl, fun c hc => by
 have : c = 0 := by
  unfold z4 at hc
  simpa using hc
 omega⟩
def cnE (V : List (List Ev)) : List Int × Int := bif (dsA V).2 != 0 then ([], (dsA V).2) else (cntG (dsA V).1 z4, 0)
theorem cn_1 {V : List (List Ev)} (h : ((dsA V).2 != 0) = true) : cnE V = ([], (dsA V).2) := by unfold cnE; rw [h]; rfl
theorem cn_2 {V : List (List Ev)} (h : ((dsA V).2 != 0) = false) : cnE V = (cntG (dsA V).1 z4, 0) := by unfold cnE; rw [h]; rfl
theorem cn_ok {V : List (List Ev)} (h : ((cnE V).2 != 0) = false) : COk (cnE V).1 1280000 := by
 cases h1 : ((dsA V).2 != 0) with
 | true => rw [cn_1 h1] at h; rw [h1] at h; cases h
 | false =>
  rw [cn_2 h1]
  have h2 := cntG_ok (dsA V).1 z4 0 z4_ok
  have h3 := (dsA_ok (V := V)).1
  exact ⟨h2.1, fun c hc => ⟨(h2.2 c hc).1, by have := (h2.2 c hc).2; omega⟩⟩
theorem Grow.own {α : Type} {f : α → List Value} {e : TypeId} {z : Nat} {S0 S1 S2 : St} {l : List (Nat × Blk)} {av : Option Addr} {C : List α} (hz : ∀ x, (f x).length = z) (hl : HoldG S0 [S0] S1 l []) (hk : Keep S1 S2) (hg : Grow S1 S2 (gOf e z f (.slice av C.length C.length) C)) :
  ∃ fr, HoldG S0 [S0] S2 (l ++ fr) [] ∧ ∀ {T : St} {Ts : List St} {l2 : List (Nat × Blk)} {gs : List Gr}, HoldG S0 Ts T l2 gs → (∀ p, p ∈ fr → p ∈ l2) → LsOf e z f T (.slice av C.length C.length) C := by
 rcases hg with ⟨h1, _, h3⟩ | ⟨b, kin, h1, h2, h3, h4, _⟩
 ·have h3 : C.length = 0 := h3
  have hC : C = [] := List.length_eq_zero_iff.1 h3
  subst hC
  have h1 : (Value.slice av 0 0) = .slice none 0 0 := h1
  refine ⟨[], by rw [List.append_nil]; exact hl.call hk, fun _ _ => ?_⟩
  show LsOf e z f _ (.slice av 0 0) []
  rw [h1]
  exact LsOf.nil
 ·have h1 : (Value.slice av C.length C.length) = .slice (some ⟨b, 0, none⟩) C.length C.length := h1
  have h4 : S2.get b = some (.cells ((C.map f).flatten) e true true kin) := h4
  have ha := (hl.call hk).add hl.below hl.keep h2 h3 h4
  refine ⟨[(b, .cells ((C.map f).flatten) e true true kin)], ha.perm (List.perm_append_singleton ..).symm, fun {T Ts l2 gs} hT hm => ?_⟩
  rw [h1]
  have hb := hT.at_ b _ (hm _ (List.mem_cons_self ..))
  exact LsOf.row hz ⟨hb.2.2, true, kin, hb.1⟩ rfl
noncomputable def cd25 : Code := Tryz.f25.body.getD .skip
theorem spec25 (aV : Option Addr) (cV : Nat) (V : List (List Ev)) (hF : Fresh S) (hG : Gl S) (hv : Vs S (.slice aV V.length cV) V) : CC Tryz.prog KK 25 [.slice aV V.length cV] S (fun v S' => Keep S S' ∧ ∃ av, v = tupV [.slice av (dsA V).1.length (dsA V).1.length, .int .i64 (dsA V).2] ∧ Grow S S' (gOf 66 5 Ds.cells (.slice av (dsA V).1.length (dsA V).1.length) (dsA V).1)) := by
 refine cc_enter (c := cd25) (n := 16) Tryz.func25 rfl rfl rfl (by kernel_rfl) rfl rfl ?_
 have hl := Hold.start S
 refine zg ?_
 refine zc hl rfl (spec34 aV cV V (hl.keep.3 hF) (hG.keep hl.keep) (hv.move (hl.since 0 rfl))) ?_; rintro v S1 hk1 hq hl; obtain ⟨w, rfl, hw⟩ := hq.is
 refine zg ?_
 constructor <;> intro h12
 ·
  refine zg ?_
  exact (z2 rfl rfl ⟨hl.keep, ⟨none, by rw [dsA_1 h12] <;> rfl, by rw [dsA_1 h12]; exact .inl ⟨rfl, rfl, rfl⟩⟩⟩)
 ·
  obtain ⟨bd, aS, aK, cS, cK, rfl, hks⟩ := hw h12
  have hk0 := hl.keep.1
  refine zg ?_
  refine zc hl rfl (spec35 bd aV aS aK cV cS cK V _ _ (hl.keep.3 hF) (hG.keep hl.keep) hks) ?_; rintro v S2 hk2 ⟨av, rfl, hg⟩ hl
  refine zg ?_
  refine y2 rfl rfl ⟨hl.keep, ⟨av, by rw [dsA_2 h12] <;> rfl, by rw [dsA_2 h12]; exact Grow.base hg hk0⟩⟩
end Go.Proofs.YtgiibikieblicaaGreatDoor
namespace Go.Proofs.YtgiibikieblicaaGreatDoor
open Go.Cm Go
set_option maxRecDepth 100000
variable {S : St}
noncomputable def cd15 : Code := Tryz.f15.body.getD .skip
theorem spec15 (aV : Option Addr) (cV : Nat) (V : List (List Ev)) (hF : Fresh S) (hG : Gl S) (hv : Vs S (.slice aV V.length cV) V) : CC Tryz.prog KK 15 [.slice aV V.length cV] S (fun v S' => Keep S S' ∧ ∃ w, v = tupV [w, .int .i64 (cnE V).2] ∧ Ints S' w (cnE V).1) := by
 refine cc_enter (c := cd15) (n := 34) Tryz.func15 rfl rfl rfl (by kernel_rfl) rfl rfl ?_
 have hl := Hold.start S
 refine zg ?_
 refine zc hl rfl (spec25 aV cV V (hl.keep.3 hF) (hG.keep hl.keep) (hv.move (hl.since 0 rfl))) ?_; have hl0 := hl; rintro v Sm hk1 ⟨av, rfl, hw⟩ hl; obtain ⟨A, hA⟩ : ∃ A, A = (dsA V).1 := ⟨_, rfl⟩; have hok := dsA_ok (V := V); rw [← hA] at hw hok ⊢; obtain ⟨fr, hl, hw⟩ := Grow.own (f := Ds.cells) (fun _ => rfl) hl0 hk1 hw; have hl : HoldG S [S] Sm fr [] := hl
 refine zg ?_
 constructor <;> intro h15
 ·
  refine zg ?_
  exact (z2 rfl rfl ⟨hl.keep, ⟨_, by rw [cn_1 h15] <;> rfl, by rw [cn_1 h15]; exact LsOf.nil⟩⟩)
 ·
  refine zg ?_; refine re_makeSliceK hl rfl rfl rfl rfl rfl rfl rfl rfl rfl Tryz.underlying39 (z := .int .i64 0) (by kernel_rfl) (by kernel_rfl) (by decide) ?_; intro B17 S1 hl; refine zA ?_; refine xp_seq rfl ?_; refine zS ?_; refine xp_block rfl ?_
  -- LOOP
  refine xe_sub (L' := [(20, .int .i64 0), (19, .int .i64 (A.length : Int)), (18, .slice av A.length A.length), (6, .slice (some ⟨B17, 0, none⟩) 4 4), (3, .int .i64 0), (2, .slice none 0 0)]) ⟨rfl, rfl, rfl, rfl, rfl, rfl, trivial⟩ ?_
  refine xp_loop rfl (fun m Le S' => ∃ (i : Nat) (O : List Int), i ≤ A.length ∧ m = A.length - i ∧ COk O i ∧ cntG (A.drop i) O = cntG A z4 ∧ SubE [(20, .int .i64 (i : Int)), (19, .int .i64 (A.length : Int)), (18, .slice av A.length A.length), (6, .slice (some ⟨B17, 0, none⟩) 4 4), (3, .int .i64 0), (2, .slice none 0 0)] Le ∧ HoldG S [S] S' ((B17, .cells ((O.map ic).flatten) 3 true true []) :: fr) []) ?_ (m := A.length) ⟨0, z4, by omega, rfl, z4_ok, rfl, ⟨rfl, rfl, rfl, rfl, rfl, rfl, trivial⟩, hl⟩
  clear hl; rintro m Le S' ⟨i, O, hi, rfl, hO, hp, hsub, hl⟩; refine xe_sub hsub ?_
  refine zg ?_
  constructor <;> intro h21
  ·
   have hlt : i < A.length := by have := of_decide_eq_true h21; omega
   obtain ⟨x, hx⟩ := nth_some hlt
   obtain ⟨b1, o1, cs1, ha, _, hrow, htk⟩ := (hw hl (fun p hp => List.mem_cons_of_mem _ hp)).elem hx
   have hxt := hok.2 x (nth_mem hx)
   have hO4 := hO.1
   obtain ⟨d, hd⟩ := nth_some (l := O) (i := (x.t - 1).toNat) (by omega)
   have hdb := hO.2 d (nth_mem hd)
   have hup : upC O x = O.set (x.t - 1).toNat (d + 1) := by unfold upC; rw [hd]; rfl
   rw [drop_nth' hx, cntG, hup] at hp
   have hup2 := hO.up (x := x)
   rw [hup] at hup2
   refine zg ?_; refine re_allocL hl rfl rfl rfl rfl rfl (z := [.int .i64 0, .int .i64 0, .int .i64 0, .int .i64 0, .int .i64 0]) (by kernel_rfl) ?_; intro B8 S8 hl; refine re_storeL hl 0 rfl rfl rfl rfl rfl rfl rfl (by kernel_rfl) rfl ?_; intro S1 hl; refine zA ?_; refine zS ?_; refine rr rfl (rd_indexAddr rfl rfl rfl (indexAddr_slice (z := 1) Tryz.underlying39 (by kernel_rfl) ⟨by omega, by omega⟩)) ?_; refine rr rfl (rd_load rfl rfl (l1 (hl.get 1 rfl) (tk_nth (j := 0) (flat_take (f := ic) (fun _ => rfl) hd) rfl))) ?_; refine zA ?_
   refine rr rfl (rd_indexAddr rfl rfl rfl (indexAddr_slice (z := 1) Tryz.underlying39 (by kernel_rfl) ⟨by omega, by omega⟩)) ?_; refine re_storeR hl 1 rfl rfl rfl rfl rfl rfl rfl (by kernel_rfl) (setN_rowI (f := ic) (z := 1) (j := 0) (k := x.t - 1) (i := (x.t - 1).toNat) (fun _ => rfl) (by omega) hd rfl (y := d + 1) rfl) ?_; intro S1 hl; refine zg ?_
   exact ⟨A.length - (i + 1), by omega, i + 1, O.set (x.t - 1).toNat (d + 1), by omega, rfl, hup2, hp, ⟨rfl, rfl, rfl, rfl, rfl, rfl, trivial⟩, hl.tail⟩
  ·
   refine zg ?_
   refine y2 rfl rfl ⟨hl.keep, by rw [cn_2 h15, ← hA]; rw [List.drop_eq_nil_of_le (by have := of_decide_eq_false h21; omega)] at hp; have hp : O = cntG A z4 := hp; rw [← hp]; exact ⟨_, rfl, LsOf.row (f := ic) (C := O) (fun _ => rfl) (own_mem hl (List.mem_cons_self ..)) hO.1.symm⟩⟩
end Go.Proofs.YtgiibikieblicaaGreatDoor
namespace Go.Proofs.YtgiibikieblicaaGreatDoor
open Go.Cm Go
set_option maxRecDepth 100000
variable {S : St}
def sumI (l : List Int) : Int := l.foldl (· + ·) 0
def ofE (V : List (List Ev)) : (Int × Int × Int) × Int := bif (fnE V).2 != 0 then ((0, 0, 0), (fnE V).2) else bif (cnE V).2 != 0 then ((0, 0, 0), (cnE V).2) else ((((fnE V).1.length : Int), (nth (cnE V).1 3).getD 0, sumI ((cnE V).1.take 3)), 0)
def wtV (w : Int × Int × Int) : Value := aggL [.int .i64 w.1, .int .i64 w.2.1, .int .i64 w.2.2]
theorem of_1 {V : List (List Ev)} (h : ((fnE V).2 != 0) = true) : ofE V = ((0, 0, 0), (fnE V).2) := by unfold ofE; rw [h]; rfl
theorem of_2 {V : List (List Ev)} (h : ((fnE V).2 != 0) = false) (h2 : ((cnE V).2 != 0) = true) : ofE V = ((0, 0, 0), (cnE V).2) := by unfold ofE; rw [h, h2]; rfl
theorem of_3 {V : List (List Ev)} {d0 d1 d2 d3 : Int} (h : ((fnE V).2 != 0) = false) (h2 : ((cnE V).2 != 0) = false) (hC : (cnE V).1 = [d0, d1, d2, d3]) : ofE V = ((((fnE V).1.length : Int), d3, sumI [d0, d1, d2]), 0) := by unfold ofE; rw [h, h2, hC]; rfl
theorem four {l : List Int} (h : l.length = 4) : ∃ a b c d, l = [a, b, c, d] := by
 match l, h with
 | [a, b, c, d], _ => exact ⟨a, b, c, d, rfl⟩
theorem sum_step {l : List Int} {i : Nat} {x : Int} (hx : nth l i = some x) : sumI (l.take (i + 1)) = sumI (l.take i) + x := by
 unfold sumI
 rw [take_nth' hx, List.foldl_append]
 rfl
theorem pc_is {S1 S2 : St} {V : List (List Ev)} {v : Value} (h : (((fnE V).2 ≠ 0 ∧ v = tupV [.slice none 0 0, .int .i64 (fnE V).2]) ∨ ((fnE V).2 = 0 ∧ ∃ b c1 c2 c3, v = tupV [.slice (some ⟨b, 0, none⟩) 4 4, .int .i64 0] ∧ S1.size ≤ b ∧ b < S2.size ∧ S2.get b = some (.cells (c4 ((fnE V).1.length : Int) c1 c2 c3) 59 false true [])))) : ∃ w, v = tupV [w, .int .i64 (fnE V).2] ∧ (((fnE V).2 != 0) = false → ∃ b c1 c2 c3, w = .slice (some ⟨b, 0, none⟩) 4 4 ∧ S1.size ≤ b ∧ b < S2.size ∧ S2.get b = some (.cells (c4 ((fnE V).1.length : Int) c1 c2 c3) 59 false true [])) := by
 rcases h with ⟨h1, rfl⟩ | ⟨h1, b, c1, c2, c3, rfl, h2⟩
 ·exact ⟨_, rfl, fun h => absurd (by simpa using h) h1⟩
 ·exact ⟨_, by rw [h1], fun _ => ⟨b, c1, c2, c3, rfl, h2⟩⟩
noncomputable def cd7 : Code := Tryz.f7.body.getD .skip
theorem spec7 (a : Option Addr) (cap : Nat) (V : List (List Ev)) (hF : Fresh S) (hG : Gl S) (hv : Vs S (.slice a V.length cap) V) : CC Tryz.prog KK 7 [.slice a V.length cap] S (fun v S' => Keep S S' ∧ v = tupV [wtV (ofE V).1, .int .i64 (ofE V).2]) := by
 refine cc_enter (c := cd7) (n := 49) Tryz.func7 rfl rfl rfl (by kernel_rfl) rfl rfl ?_
 have hl := Hold.start S
 refine zg ?_; refine re_allocL hl rfl rfl rfl rfl rfl (z := [.int .i64 0, .int .i64 0, .int .i64 0]) (by kernel_rfl) ?_; intro B2 S2 hl; refine zg ?_
 refine zc hl rfl (spec14 a cap V (hl.keep.3 hF) (hG.keep hl.keep) (hv.move (hl.since 0 rfl))) ?_; have hbel := hl.below; have hk0 := hl.keep; rintro v S1 hk1 hq hl; obtain ⟨w, rfl, hw⟩ := pc_is hq
 refine zg ?_
 constructor <;> intro h16
 ·
  refine zg ?_; refine rr rfl (rd_build rfl rfl (v := aggL [.int .i64 0, .int .i64 0, .int .i64 0]) (by rfl)) ?_; refine zg ?_; refine re_storeL hl 0 rfl rfl rfl rfl rfl rfl rfl (by kernel_rfl) rfl ?_; intro S1 hl; refine zg ?_
  refine thn_ret (done_ret (ress_cell rfl (lN (z := 3) (hl.get 0 rfl) rfl) (ress_tmp rfl rfl)) ⟨hl.keep, by rw [of_1 h16] <;> rfl⟩)
 ·
  obtain ⟨b, m1, m2, m3, rfl, hb1, hb2, hb3⟩ := hw h16
  have hl := hl.addLast hbel hk0 hb1 hb2 hb3
  refine zg ?_
  refine zc hl rfl (spec15 a cap V (hl.keep.3 hF) (hG.keep hl.keep) (hv.move (hl.since 0 rfl))) ?_; rintro v Sc hk2 ⟨w2, rfl, hw2⟩ hl; have hl := hl.mark
  refine zg ?_
  constructor <;> intro h25
  ·
   refine zg ?_; refine rr rfl (rd_build rfl rfl (v := aggL [.int .i64 0, .int .i64 0, .int .i64 0]) (by rfl)) ?_; refine zg ?_; refine re_storeL hl 0 rfl rfl rfl rfl rfl rfl rfl (by kernel_rfl) rfl ?_; intro S1 hl; refine zg ?_
   refine thn_ret (done_ret (ress_cell rfl (lN (z := 3) (hl.get 0 rfl) rfl) (ress_tmp rfl rfl)) ⟨hl.keep, by rw [of_2 h16 h25] <;> rfl⟩)
  ·
   have hok := cn_ok h25
   obtain ⟨d0, d1, d2, d3, hC⟩ := four hok.1
   have hbd := hok.2
   rw [hC] at hw2 hbd
   obtain ⟨a2, k2, rfl⟩ := LsOf.is hw2
   obtain ⟨b4, o4, cs4, ha4, _, hrow4, htk4⟩ := hw2.elem (k := 3) rfl
   refine zg ?_; refine xp_draw (idx := [0, 1, 2, 3, 4, 5, 6, 7, 8]) rfl (by kernel_rfl) (by kernel_rfl) ?_; refine zA ?_; refine pr rfl (rd_indexAddr rfl rfl rfl (indexAddr_slice (z := 1) Tryz.underlying39 (by kernel_rfl) ⟨by decide, by decide⟩)) ?_; refine pk rfl (rd_load rfl rfl (l1 (v := .int .i64 ((fnE V).1.length : Int)) (hl.get 1 rfl) rfl)) ?_; refine zA ?_; refine pr rfl (rd_indexAddr rfl rfl rfl (indexAddr_sl (z := 1) ha4 Tryz.underlying39 (by kernel_rfl) ⟨by omega, by show (3 : Int) < 4; omega⟩)) ?_; refine zA ?_
   refine pr rfl (rd_build rfl rfl (v := aggL [.int .i64 ((fnE V).1.length : Int), .int .i64 d3, .int .i64 0]) (by rfl)) ?_; refine rp_allocL hF hl rfl rfl rfl rfl rfl (z := [.int .i64 0, .int .i64 0, .int .i64 0]) (by kernel_rfl) ?_; intro B7 S7 hl
   refine rp_storeL hl 0 rfl rfl rfl rfl rfl rfl rfl (by kernel_rfl) rfl ?_; intro S1 hl; refine ⟨stays_all (by kernel_rfl), ?_⟩
   refine zg ?_
   obtain ⟨v36, hsl, ⟨k3, rfl⟩, hw3⟩ := SliceAt.front (P := Tryz.prog) (kk := .i64) (k := 3) (hw2.move (hl.since 0 rfl)) Tryz.underlying39 (by kernel_rfl) (by show 3 < 4; omega)
   have hl := hl.mark
   refine rr rfl (rd_slice rfl rfl rfl rfl rfl hsl) ?_; refine zA ?_; refine xp_block rfl ?_
   -- LOOP
   refine xe_sub (L' := [(38, .int .i64 0), (37, .int .i64 3), (36, .slice a2 3 k3), (7, ptrTo B7 0), (3, .int .i64 0), (2, ptrTo B2 0)]) ⟨rfl, rfl, rfl, rfl, rfl, rfl, trivial⟩ ?_
   refine xp_loop rfl (fun m Le S' => ∃ (i : Nat), i ≤ 3 ∧ m = 3 - i ∧ (0 ≤ sumI ([d0, d1, d2].take i) ∧ sumI ([d0, d1, d2].take i) ≤ 1280000 * i) ∧ SubE [(38, .int .i64 (i : Int)), (37, .int .i64 3), (36, .slice a2 3 k3), (7, ptrTo B7 0), (3, .int .i64 0), (2, ptrTo B2 0)] Le ∧ HoldG S [S1, Sc, S] S' [(B7, .cells [.int .i64 ((fnE V).1.length : Int), .int .i64 d3, .int .i64 (sumI ([d0, d1, d2].take i))] 24 false true []), (B2, .cells [.int .i64 0, .int .i64 0, .int .i64 0] 24 false true []), (b, .cells (c4 ((fnE V).1.length : Int) m1 m2 m3) 59 false true [])] []) ?_ (m := 3) ⟨0, by omega, rfl, ⟨Int.le_refl _, Int.le_refl _⟩, ⟨rfl, rfl, rfl, rfl, rfl, rfl, trivial⟩, hl⟩
   clear hl; rintro m Le S' ⟨i, hi, rfl, hs, hsub, hl⟩; refine xe_sub hsub ?_
   refine zg ?_
   constructor <;> intro h39
   ·
    have hlt : i < 3 := by have := of_decide_eq_true h39; omega
    obtain ⟨x, hx⟩ := nth_some (l := [d0, d1, d2]) hlt
    obtain ⟨b5, o5, cs5, ha5, _, hrow5, htk5⟩ := LsOf.elem (C := [d0, d1, d2]) (f := ic) hw3 hx
    have hx2 := hbd x (by have := nth_mem hx; simp at this ⊢; omega)
    have hst := sum_step hx
    refine zg ?_; refine re_storeL hl 0 rfl rfl rfl rfl rfl rfl rfl (by kernel_rfl) rfl ?_; intro S1 hl; refine zg ?_
    exact ⟨3 - (i + 1), by omega, i + 1, by omega, rfl, by rw [hst]; omega, ⟨rfl, rfl, rfl, rfl, rfl, rfl, trivial⟩, by rw [hst]; exact hl⟩
   ·
    refine zg ?_; refine re_storeL hl 1 rfl rfl rfl rfl rfl rfl rfl (by kernel_rfl) rfl ?_; intro S1 hl; refine zg ?_
    obtain rfl : i = 3 := by have := of_decide_eq_false h39; omega
    refine done_ret (ress_cell rfl (lN (z := 3) (hl.get 1 rfl) rfl) (ress_tmp rfl rfl)) ⟨hl.keep, by rw [of_3 h16 h25 hC] <;> rfl⟩
end Go.Proofs.YtgiibikieblicaaGreatDoor
namespace Go.Proofs.YtgiibikieblicaaGreatDoor
open Go.Cm Go
set_option maxRecDepth 100000
variable {S : St}
theorem tE_2n {t : Ti} (h : tB t = false) (h2 : (gI t.n t.d != 1) = true) : tE t = 3 := tE_2 h (by
 have := gI_pos (a := t.n) (b := t.d) (by have := tB_ok h; omega)
 have h3 : gI t.n t.d ≠ 1 := by simpa using h2
 simp; omega)
theorem tE_3n {t : Ti} (h : tB t = false) (h2 : (gI t.n t.d != 1) = false) : tE t = 0 := tE_3 h (by
 have h3 : gI t.n t.d = 1 := by simpa using h2
 rw [h3]; rfl)
theorem gI_done {x y a b : Int} (h : decide (y > 0) = false) (hy : 0 ≤ y) (hx : 0 ≤ x) (hg : gI x y = gI a b) : x = gI a b := by
 have : y = 0 := by simp at h; omega
 subst this
 rw [← hg, gI_zero hx]
theorem mk_3 {n d : Int} (hn : 0 ≤ n) (hd : 1 ≤ d) (h3 : (decide (n.tdiv (gI n d) > 1099511627776) || decide (d.tdiv (gI n d) > 1048576)) = true) : mkE n d = (t0, 4) :=
 mkE_3 (by simp; omega) (by simp; omega) h3
theorem mk_4 {n d : Int} (hn : 0 ≤ n) (hd : 1 ≤ d) (h3 : (decide (n.tdiv (gI n d) > 1099511627776) || decide (d.tdiv (gI n d) > 1048576)) = false) : mkE n d = (⟨n.tdiv (gI n d), d.tdiv (gI n d)⟩, 0) :=
 mkE_4 (by simp; omega) (by simp; omega) h3
theorem both_1 {a b : Ti} (h : (tE a != 0) = true) : firstE [a, b] = tE a := first_bad h
theorem both_2 {a b : Ti} (h : (tE a != 0) = false) : firstE [a, b] = tE b := by
 rw [first_go h]
 show (bif tE b != 0 then tE b else 0) = _
 cases h2 : tE b != 0 with
 | true => rfl
 | false => have : tE b = 0 := by simpa using h2
            rw [this]; rfl
theorem sub_neg {a b : Ti} (h : (firstE [a, b] != 0) = false) (h2 : decide (a.n * b.d < b.n * a.d) = true) : subE a b = (t0, 2) := by
 rw [subE_2 h, mkE_1]
 simp at h2 ⊢; omega
theorem bothPos {a b : Ti} (h : (firstE [a, b] != 0) = false) : 1 ≤ a.d * b.d := by
 have h2 := first2 h
 have ha := tE_ok h2.1
 have hb := tE_ok h2.2
 have : 0 < a.d * b.d := Int.mul_pos (by omega) (by omega)
 omega
theorem sgn_lt {x y : Int} (h : decide (x < y) = true) : sgn (x - y) = -1 := sgn_1 (by simp at h ⊢; omega)
theorem sgn_gt {x y : Int} (h : decide (x < y) = false) (h2 : decide (x > y) = true) : sgn (x - y) = 1 := sgn_2 (by simp at h ⊢; omega) (by simp at h2 ⊢; omega)
theorem sgn_eq {x y : Int} (h : decide (x < y) = false) (h2 : decide (x > y) = false) : sgn (x - y) = 0 := by
 have : x - y = 0 := by simp at h h2; omega
 rw [this]; rfl
noncomputable def cd103 : Code := Tryz.f103.body.getD .skip
theorem spec103 (a b : Int) (ha : 0 ≤ a) (hb : 0 ≤ b) (ha2 : a ≤ 9223372036854775807) (hb2 : b ≤ 9223372036854775807) : CC Tryz.prog KK 103 [.int .i64 a, .int .i64 b] S (fun v S' => Keep S S' ∧ v = .int .i64 (gI a b)) := by
 refine cc_enter (c := cd103) (n := 14) Tryz.func103 rfl rfl rfl (by kernel_rfl) rfl rfl ?_
 have hl := Hold.start S
 refine zS ?_; refine xp_seq rfl ?_; refine xp_block rfl ?_
 -- LOOP
 refine xe_sub (L' := [(4, .int .i64 0), (0, .int .i64 a), (1, .int .i64 b)]) ⟨rfl, rfl, rfl, trivial⟩ ?_
 refine xp_loop rfl (fun m Le S' => ∃ x y : Int, (0 ≤ x ∧ 0 ≤ y ∧ x ≤ 9223372036854775807 ∧ y ≤ 9223372036854775807) ∧ m = y.toNat ∧ gI x y = gI a b ∧ SubE [(4, .int .i64 0), (0, .int .i64 x), (1, .int .i64 y)] Le ∧ Hold S [S] S' []) ?_ (m := b.toNat) ⟨a, b, ⟨ha, hb, ha2, hb2⟩, rfl, rfl, ⟨rfl, rfl, rfl, trivial⟩, hl⟩
 clear hl; rintro m Le S' ⟨x, y, hxy, rfl, hin, hsub, hl⟩; refine xe_sub hsub ?_
 refine zg ?_
 constructor <;> intro h7
 ·
  skip
  have hy : 0 < y := by simp at h7; omega
  have hr := rem_bd (a := x) hy hxy.1
  refine zg ?_; refine rr rfl (rd_bin rfl rfl rfl (remV hy)) ?_; refine zg ?_
  exact ⟨(x.tmod y).toNat, by omega, y, x.tmod y, ⟨by omega, by omega, by omega, by omega⟩, rfl, (gI_step hxy.1 hy).trans hin, ⟨rfl, rfl, rfl, trivial⟩, hl.tail⟩
 ·
  refine zg ?_
  refine y1 rfl ⟨hl.keep, congrArg (Value.int .i64) (gI_done h7 hxy.2.1 hxy.1 hin)⟩
noncomputable def cd102 : Code := Tryz.f102.body.getD .skip
theorem spec102 (t : Ti) : CC Tryz.prog KK 102 [t.v] S (fun v S' => Keep S S' ∧ v = .int .i64 (tE t)) := by
 refine cc_enter (c := cd102) (n := 27) Tryz.func102 rfl rfl rfl (by kernel_rfl) rfl rfl ?_
 have hl := Hold.start S
 refine zg ?_; refine re_boxL hl rfl rfl rfl rfl rfl rfl ?_; intro B1 S1 hl; refine zA ?_; refine xp_seq rfl ?_; refine xp_seq rfl (xe_toE hl 20 (.bool (tB t)) ?_ rfl ?_)
 ·
  refine zg ?_; refine re_bool (d := 6) rfl (fun h6 => ?_) (fun h6 => ?_)
  ·
   refine zg ?_
   exact ⟨rfl, bl (by unfold tB; rw [h6]; rfl), sB, hl⟩
  ·
   refine zg ?_; refine re_bool (d := 11) rfl (fun h11 => ?_) (fun h11 => ?_)
   ·
    refine zg ?_
    exact ⟨rfl, bl (by unfold tB; rw [h6, h11]; rfl), sB, hl⟩
   ·
    refine zg ?_; refine re_bool (d := 16) rfl (fun h16 => ?_) (fun h16 => ?_)
    ·
     refine zg ?_
     exact ⟨rfl, bl (by unfold tB; rw [h6, h11, h16]; rfl), sB, hl⟩
    ·
     refine zg ?_
     exact ⟨rfl, bl (by unfold tB; rw [h6, h11, h16]; rfl), sB, hl⟩
 intro S1 hl
 refine zg ?_
 constructor <;> intro h20
 ·
  refine zg ?_
  exact (z1 rfl ⟨hl.keep, congrArg (Value.int .i64) (tE_1 h20).symm⟩)
 ·
  have hb := tB_ok h20
  refine zg ?_
  refine zc hl rfl (spec103 t.n t.d (by omega) (by omega) (by omega) (by omega)) ?_; rintro v S1 hk1 rfl hl
  refine zg ?_
  constructor <;> intro h26
  ·
   refine zg ?_
   exact (z1 rfl ⟨hl.keep, congrArg (Value.int .i64) (tE_2n h20 h26).symm⟩)
  ·
   refine zg ?_
   refine y1 rfl ⟨hl.keep, congrArg (Value.int .i64) (tE_3n h20 h26).symm⟩
end Go.Proofs.YtgiibikieblicaaGreatDoor
namespace Go.Proofs.YtgiibikieblicaaGreatDoor
open Go.Cm Go
set_option maxRecDepth 100000
variable {S : St}
noncomputable def cd75 : Code := Tryz.f75.body.getD .skip
theorem spec75 (n d : Int) (hn : 0 ≤ n) (hd : 1 ≤ d) (hn2 : n ≤ 9223372036854775807) (hd2 : d ≤ 9223372036854775807) : CC Tryz.prog KK 75 [.int .i64 n, .int .i64 d] S (fun v S' => Keep S S' ∧ v = r2 (mkE n d)) := by
 refine cc_enter (c := cd75) (n := 26) Tryz.func75 rfl rfl rfl (by kernel_rfl) rfl rfl ?_
 have hl := Hold.start S
 have hg := gI_pos (a := n) (b := d) (by omega)
 refine zg ?_; refine re_allocL hl rfl rfl rfl rfl rfl (z := [.int .i64 0, .int .i64 0]) (by kernel_rfl) ?_; intro B4 S4 hl; refine zg ?_
 refine zc hl rfl (spec103 n d hn (by omega) hn2 hd2) ?_; rintro v S1 hk1 rfl hl
 refine zg ?_; refine rr rfl (rd_bin rfl rfl rfl (quoV hg hn hn2)) ?_; refine zg ?_; refine rr rfl (rd_bin rfl rfl rfl (quoV hg (by omega) hd2)) ?_; refine zA ?_; refine xp_seq rfl ?_; refine xp_seq rfl (xe_toE hl 21 (.bool (decide (n.tdiv (gI n d) > 1099511627776) || decide (d.tdiv (gI n d) > 1048576))) ?_ rfl ?_)
 ·
  refine zg ?_; refine re_bool (d := 18) rfl (fun h18 => ?_) (fun h18 => ?_)
  ·
   refine zg ?_
   exact ⟨rfl, bl (by first | (simp [h18]; done) | (simp only [h18, BLs])), sB, hl⟩
  ·
   refine zg ?_
   exact ⟨rfl, bl (by first | (simp [h18]; done) | (simp only [h18, BLs])), sB, hl⟩
 intro S1 hl
 refine zg ?_
 constructor <;> intro h21
 ·
  refine zg ?_; refine rr rfl (rd_build rfl rfl (v := aggL [.int .i64 0, .int .i64 0]) (by rfl)) ?_; refine re_storeL hl 0 rfl rfl rfl rfl rfl rfl rfl (by kernel_rfl) rfl ?_; intro S1 hl; refine zg ?_
  refine thn_ret (done_ret (ress_cell rfl (lN (z := 2) (hl.get 0 rfl) rfl) (ress_tmp rfl rfl)) ⟨hl.keep, by rw [mk_3 hn hd h21]; rfl⟩)
 ·
  refine zg ?_; refine rr rfl (rd_build rfl rfl (v := aggL [.int .i64 (n.tdiv (gI n d)), .int .i64 (d.tdiv (gI n d))]) (by rfl)) ?_; refine re_storeL hl 0 rfl rfl rfl rfl rfl rfl rfl (by kernel_rfl) rfl ?_; intro S1 hl; refine zg ?_
  refine done_ret (ress_cell rfl (lN (z := 2) (hl.get 0 rfl) rfl) (ress_tmp rfl rfl)) ⟨hl.keep, by rw [mk_4 hn hd h21]; rfl⟩
noncomputable def cd74 : Code := Tryz.f74.body.getD .skip
theorem spec74 (a b : Ti) : CC Tryz.prog KK 74 [a.v, b.v] S (fun v S' => Keep S S' ∧ v = .int .i64 (firstE [a, b])) := by
 refine cc_enter (c := cd74) (n := 13) Tryz.func74 rfl rfl rfl (by kernel_rfl) rfl rfl ?_
 have hl := Hold.start S
 refine zg ?_; refine re_boxL hl rfl rfl rfl rfl rfl rfl ?_; intro B2 S2 hl; refine re_boxL hl rfl rfl rfl rfl rfl rfl ?_; intro B3 S3 hl; refine zg ?_
 refine zc hl rfl (spec102 a) ?_; rintro v S1 hk1 rfl hl
 refine zg ?_
 constructor <;> intro h9
 ·
  refine zg ?_
  exact (z1 rfl ⟨hl.keep, congrArg (Value.int .i64) (both_1 h9).symm⟩)
 ·
  refine zg ?_
  refine zc hl rfl (spec102 b) ?_; rintro v S1 hk1 rfl hl
  refine zg ?_
  refine y1 rfl ⟨hl.keep, congrArg (Value.int .i64) (both_2 h9).symm⟩
noncomputable def cd101 : Code := Tryz.f101.body.getD .skip
theorem spec101 (a b : Ti) : CC Tryz.prog KK 101 [a.v, b.v] S (fun v S' => Keep S S' ∧ v = r2 (addE a b)) := by
 refine cc_enter (c := cd101) (n := 33) Tryz.func101 rfl rfl rfl (by kernel_rfl) rfl rfl ?_
 have hl := Hold.start S
 refine zg ?_; refine re_boxL hl rfl rfl rfl rfl rfl rfl ?_; intro B2 S2 hl; refine re_boxL hl rfl rfl rfl rfl rfl rfl ?_; intro B3 S3 hl; refine re_allocL hl rfl rfl rfl rfl rfl (z := [.int .i64 0, .int .i64 0]) (by kernel_rfl) ?_; intro B4 S4 hl; refine zg ?_
 refine zc hl rfl (spec74 a b) ?_; rintro v S1 hk1 rfl hl
 refine zg ?_
 constructor <;> intro h11
 ·
  refine zg ?_; refine rr rfl (rd_build rfl rfl (v := aggL [.int .i64 0, .int .i64 0]) (by rfl)) ?_; refine zg ?_; refine re_storeL hl 0 rfl rfl rfl rfl rfl rfl rfl (by kernel_rfl) rfl ?_; intro S1 hl; refine zg ?_
  refine thn_ret (done_ret (ress_cell rfl (lN (z := 2) (hl.get 0 rfl) rfl) (ress_tmp rfl rfl)) ⟨hl.keep, by rw [addE_1 h11]; rfl⟩)
 ·
  have hbd := firstBd h11
  have hp := bothPos h11
  refine zg ?_
  refine zc hl rfl (spec75 _ _ (by omega) hp (by omega) (by omega)) ?_; rintro v S1 hk1 rfl hl
  refine zg ?_; refine re_storeL hl 0 rfl rfl rfl rfl rfl rfl rfl (by kernel_rfl) rfl ?_; intro S1 hl; refine zg ?_
  refine done_ret (ress_cell rfl (lN (z := 2) (hl.get 0 rfl) rfl) (ress_tmp rfl rfl)) ⟨hl.keep, by rw [addE_2 h11]; rfl⟩
noncomputable def cd51 : Code := Tryz.f51.body.getD .skip
theorem spec51 (a b : Ti) : CC Tryz.prog KK 51 [a.v, b.v] S (fun v S' => Keep S S' ∧ v = r2 (subE a b)) := by
 refine cc_enter (c := cd51) (n := 45) Tryz.func51 rfl rfl rfl (by kernel_rfl) rfl rfl ?_
 have hl := Hold.start S
 refine zg ?_; refine re_boxL hl rfl rfl rfl rfl rfl rfl ?_; intro B2 S2 hl; refine re_boxL hl rfl rfl rfl rfl rfl rfl ?_; intro B3 S3 hl; refine re_allocL hl rfl rfl rfl rfl rfl (z := [.int .i64 0, .int .i64 0]) (by kernel_rfl) ?_; intro B4 S4 hl; refine zg ?_
 refine zc hl rfl (spec74 a b) ?_; rintro v S1 hk1 rfl hl
 refine zg ?_
 constructor <;> intro h11
 ·
  refine zg ?_; refine rr rfl (rd_build rfl rfl (v := aggL [.int .i64 0, .int .i64 0]) (by rfl)) ?_; refine zg ?_; refine re_storeL hl 0 rfl rfl rfl rfl rfl rfl rfl (by kernel_rfl) rfl ?_; intro S1 hl; refine zg ?_
  refine thn_ret (done_ret (ress_cell rfl (lN (z := 2) (hl.get 0 rfl) rfl) (ress_tmp rfl rfl)) ⟨hl.keep, by rw [subE_1 h11]; rfl⟩)
 ·
  have hbd := firstBd h11
  have hp := bothPos h11
  refine zg ?_
  constructor <;> intro h24
  ·
   refine zg ?_; refine rr rfl (rd_build rfl rfl (v := aggL [.int .i64 0, .int .i64 0]) (by rfl)) ?_; refine re_storeL hl 0 rfl rfl rfl rfl rfl rfl rfl (by kernel_rfl) rfl ?_; intro S1 hl; refine zg ?_
   refine thn_ret (done_ret (ress_cell rfl (lN (z := 2) (hl.get 0 rfl) rfl) (ress_tmp rfl rfl)) ⟨hl.keep, by rw [sub_neg h11 h24]; rfl⟩)
  ·
   have hge := of_decide_eq_false h24
   refine zg ?_
   refine zc hl rfl (spec75 _ _ (by omega) hp (by omega) (by omega)) ?_; rintro v S1 hk1 rfl hl
   refine zg ?_; refine re_storeL hl 0 rfl rfl rfl rfl rfl rfl rfl (by kernel_rfl) rfl ?_; intro S1 hl; refine zg ?_
   refine done_ret (ress_cell rfl (lN (z := 2) (hl.get 0 rfl) rfl) (ress_tmp rfl rfl)) ⟨hl.keep, by rw [subE_2 h11]; rfl⟩
noncomputable def cd104 : Code := Tryz.f104.body.getD .skip
theorem spec104 (a b : Ti) : CC Tryz.prog KK 104 [a.v, b.v] S (fun v S' => Keep S S' ∧ v = tupV [.int .i64 (cmpE a b).1, .int .i64 (cmpE a b).2]) := by
 refine cc_enter (c := cd104) (n := 33) Tryz.func104 rfl rfl rfl (by kernel_rfl) rfl rfl ?_
 have hl := Hold.start S
 refine zg ?_; refine re_boxL hl rfl rfl rfl rfl rfl rfl ?_; intro B2 S2 hl; refine re_boxL hl rfl rfl rfl rfl rfl rfl ?_; intro B3 S3 hl; refine zg ?_
 refine zc hl rfl (spec74 a b) ?_; rintro v S1 hk1 rfl hl
 refine zg ?_
 constructor <;> intro h13
 ·
  refine zg ?_
  exact (z2 rfl rfl ⟨hl.keep, by rw [cmpE_1 h13]⟩)
 ·
  have hbd := firstBd h13
  refine zg ?_; refine xp_draw (idx := [0, 1, 2, 3, 4, 5, 6, 7, 8, 9, 10, 11]) rfl (by kernel_rfl) (by kernel_rfl) ?_; refine zg ?_
  constructor <;> intro h25
  ·
   refine zg ?_
   refine blk_ret ((z2 rfl rfl ⟨hl.keep, by rw [cmpE_2 h13, sgn_lt h25]⟩))
  ·
   refine zg ?_
   constructor <;> intro h29
   ·
    refine zg ?_
    refine blk_ret ((z2 rfl rfl ⟨hl.keep, by rw [cmpE_2 h13, sgn_gt h25 h29]⟩))
   ·
    refine zg ?_
    refine y2 rfl rfl ⟨hl.keep, by rw [cmpE_2 h13, sgn_eq h25 h29]⟩
end Go.Proofs.YtgiibikieblicaaGreatDoor
namespace Go.Proofs.YtgiibikieblicaaGreatDoor
open Go.Cm Go
set_option maxRecDepth 100000
variable {S : St}
theorem tdiv7 {o s : Int} (ho : 0 ≤ o) (hs : 0 ≤ s) (hs6 : s ≤ 6) : (7 * o + s).tdiv 7 = o ∧ (7 * o + s).tmod 7 = s := by
 rw [Int.tdiv_eq_ediv_of_nonneg (by omega), Int.tmod_eq_emod_of_nonneg (by omega)]
 omega
theorem hgt_at {p : Pt} (h : pB p = false) : hgtI (numI p) p.a = 12 * p.o + halfI p.s + p.a := by
 have hb := pB_ok h
 have ht := tdiv7 (o := p.o) (s := p.s) hb.2.2.1 hb.1 hb.2.1
 unfold hgtI numI
 rw [ht.1, ht.2]
def rcB (x : Ev) : Bool := x.rest && !decide (x.p = p0)
def roneE (x : Ev) (now : Ti) : Int := bif oneE x != 0 then oneE x else bif !decide (x.at_ = now) then 6 else (addE x.at_ x.dur).2
theorem rone_go {x : Ev} {now : Ti} (h : oneE x = 0) : roneE x now = bif !decide (x.at_ = now) then 6 else (addE x.at_ x.dur).2 := by unfold roneE; rw [h]; rfl
theorem rone_bad {x : Ev} {now : Ti} {e : Int} (h : oneE x = e) (he : (e != 0) = true) : roneE x now = e := by unfold roneE; rw [h, he]; rfl
theorem evG_r1 {x : Ev} {r : List Ev} {now : Ti} {i : Nat} (h : (roneE x now != 0) = true) : evG (x :: r) now i = (roneE x now, (i : Int)) := by
 unfold roneE at h ⊢
 cases h1 : oneE x != 0 with
 | true => exact evG_1 h1
 | false =>
  rw [h1] at h
  cases h2 : !decide (x.at_ = now) with
  | true => exact evG_2 h1 h2
  | false => rw [h2] at h; exact evG_3 h1 h2 h
theorem evG_r2 {x : Ev} {r : List Ev} {now : Ti} {i : Nat} (h : (roneE x now != 0) = false) : evG (x :: r) now i = evG r (addE x.at_ x.dur).1 (i + 1) := by
 unfold roneE at h
 cases h1 : oneE x != 0 with
 | true => rw [h1] at h; rw [cond_true] at h; rw [h] at h1; cases h1
 | false =>
  rw [h1] at h
  cases h2 : !decide (x.at_ = now) with
  | true => rw [h2] at h; cases h
  | false => rw [h2] at h; exact evG_4 h1 h2 h
theorem rcB_mid {x : Ev} (h : rcB x = true) : midE x = 3 := by
 unfold rcB at h
 rw [Bool.and_eq_true] at h
 exact mid_1 h.1 h.2
theorem rcB_rest {x : Ev} (h : rcB x = false) (h2 : x.rest = true) : midE x = 0 := by
 unfold rcB at h
 rw [h2] at h
 exact mid_2 h2 h
noncomputable def cd109 : Code := Tryz.f109.body.getD .skip
theorem spec109 (p : Pt) : CC Tryz.prog KK 109 [p.v] S (fun v S' => Keep S S' ∧ v = .int .i64 (pE p)) := by
 refine cc_enter (c := cd109) (n := 31) Tryz.func109 rfl rfl rfl (by kernel_rfl) rfl rfl ?_
 have hl := Hold.start S
 refine zg ?_; refine re_boxL hl rfl rfl rfl rfl rfl rfl ?_; intro B1 S1 hl; refine zA ?_; refine xp_seq rfl ?_; refine xp_seq rfl (xe_toE hl 30 (.bool (pB p)) ?_ rfl ?_)
 ·
  refine zg ?_; refine re_bool (d := 6) rfl (fun h6 => ?_) (fun h6 => ?_)
  ·
   refine zg ?_
   exact ⟨rfl, bl (by unfold pB; rw [h6]; rfl), sB, hl⟩
  ·
   refine zg ?_; refine re_bool (d := 11) rfl (fun h11 => ?_) (fun h11 => ?_)
   ·
    refine zg ?_
    exact ⟨rfl, bl (by unfold pB; rw [h6, h11]; rfl), sB, hl⟩
   ·
    refine zg ?_; refine re_bool (d := 16) rfl (fun h16 => ?_) (fun h16 => ?_)
    ·
     refine zg ?_
     exact ⟨rfl, bl (by unfold pB; rw [h6, h11, h16]; rfl), sB, hl⟩
    ·
     refine zg ?_; refine re_bool (d := 21) rfl (fun h21 => ?_) (fun h21 => ?_)
     ·
      refine zg ?_
      exact ⟨rfl, bl (by unfold pB; rw [h6, h11, h16, h21]; rfl), sB, hl⟩
     ·
      refine zg ?_; refine re_bool (d := 26) rfl (fun h26 => ?_) (fun h26 => ?_)
      ·
       refine zg ?_
       exact ⟨rfl, bl (by unfold pB; rw [h6, h11, h16, h21, h26]; rfl), sB, hl⟩
      ·
       refine zg ?_
       exact ⟨rfl, bl (by unfold pB; rw [h6, h11, h16, h21, h26]; rfl), sB, hl⟩
 intro S1 hl
 refine zg ?_
 constructor <;> intro h30
 ·
  refine zg ?_
  exact (z1 rfl ⟨hl.keep, congrArg (Value.int .i64) (pE_1 h30).symm⟩)
 ·
  refine zg ?_
  refine y1 rfl ⟨hl.keep, congrArg (Value.int .i64) (pE_2 h30).symm⟩
noncomputable def cd79 : Code := Tryz.f79.body.getD .skip
theorem spec79 (p : Pt) : CC Tryz.prog KK 79 [p.v] S (fun v S' => Keep S S' ∧ v = tupV [.int .i64 (numE p).1, .int .i64 (numE p).2]) := by
 refine cc_enter (c := cd79) (n := 16) Tryz.func79 rfl rfl rfl (by kernel_rfl) rfl rfl ?_
 have hl := Hold.start S
 refine zg ?_; refine re_boxL hl rfl rfl rfl rfl rfl rfl ?_; intro B1 S1 hl; refine zg ?_
 refine zc hl rfl (spec109 p) ?_; rintro v S1 hk1 rfl hl
 refine zg ?_
 constructor <;> intro h8
 ·
  refine zg ?_
  exact (z2 rfl rfl ⟨hl.keep, by unfold numE; rw [pE_yes h8, pE_1 (pE_yes h8)]; rfl⟩)
 ·
  have hb := pB_ok (pE_no h8)
  refine zg ?_
  refine y2 rfl rfl ⟨hl.keep, by unfold numE; rw [pE_no h8]; rfl⟩
noncomputable def cd128 : Code := Tryz.f128.body.getD .skip
theorem spec128 (p : Pt) (hF : Fresh S) : CC Tryz.prog KK 128 [p.v] S (fun v S' => Keep S S' ∧ v = tupV [.int .i64 (hgtE p).1, .int .i64 (hgtE p).2]) := by
 refine cc_enter (c := cd128) (n := 22) Tryz.func128 rfl rfl rfl (by kernel_rfl) rfl rfl ?_
 have hl := Hold.start S
 refine zg ?_; refine re_boxL hl rfl rfl rfl rfl rfl rfl ?_; intro B1 S1 hl; refine zg ?_
 refine zc hl rfl (spec109 p) ?_; rintro v S1 hk1 rfl hl
 refine zg ?_
 constructor <;> intro h8
 ·
  refine zg ?_
  exact (z2 rfl rfl ⟨hl.keep, by unfold hgtE; rw [pE_yes h8, pE_1 (pE_yes h8)]; rfl⟩)
 ·
  have hb := pB_ok (pE_no h8)
  have hh := half_bd hb.1 (by omega)
  refine zg ?_; refine xp_draw (idx := [0, 1, 2, 3, 4, 5, 6, 7, 8, 9, 10, 11, 12, 13]) rfl (by kernel_rfl) (by kernel_rfl) ?_; refine zg ?_; refine rp_buildSliceR hF hl rfl rfl rfl rfl rfl Tryz.underlying39 rfl (c := halvesL) (by kernel_rfl) ?_; intro B13 S1 hg13 hr13 hl; refine zA ?_; refine pr rfl (rd_indexAddr rfl rfl rfl (indexAddr_slice (z := 1) Tryz.underlying39 (by kernel_rfl) ⟨hb.1, by omega⟩)) ?_; refine pk rfl (rd_load rfl rfl (l2 hr13 (halves_at hb.1 (by omega)))) ?_; refine zA ?_; refine xp_ret rfl ?_
  refine done_ret (ress_tmp rfl (ress_tmp rfl rfl)) ⟨hl.keep, by unfold hgtE; rw [pE_no h8, hgt_at (pE_no h8)]; rfl⟩
end Go.Proofs.YtgiibikieblicaaGreatDoor
namespace Go.Proofs.YtgiibikieblicaaGreatDoor
open Go.Cm Go
set_option maxRecDepth 100000
variable {S : St}
noncomputable def cd100 : Code := Tryz.f100.body.getD .skip
theorem spec100 (x : Ev) (now : Ti) : CC Tryz.prog KK 100 [x.v, now.v] S (fun v S' => Keep S S' ∧ v = .int .i64 (roneE x now)) := by
 refine cc_enter (c := cd100) (n := 65) Tryz.func100 rfl rfl rfl (by kernel_rfl) rfl rfl ?_
 have hl := Hold.start S
 refine zg ?_; refine re_boxL hl rfl rfl rfl rfl rfl rfl ?_; intro B2 S2 hl; refine re_boxL hl rfl rfl rfl rfl rfl rfl ?_; intro B3 S3 hl; refine zg ?_
 refine zc hl rfl (spec102 x.at_) ?_; rintro v S1 hk1 rfl hl
 refine zg ?_
 constructor <;> intro h10
 ·
  refine zg ?_
  exact (z1 rfl ⟨hl.keep, congrArg (Value.int .i64) (by rw [rone_bad (one_1 (by rw [both_1 h10]; exact h10)) (by rw [both_1 h10]; exact h10), both_1 h10])⟩)
 ·
  refine zg ?_
  refine zc hl rfl (spec102 x.dur) ?_; rintro v S1 hk1 rfl hl
  refine zg ?_
  constructor <;> intro h15
  ·
   refine zg ?_
   refine blk_ret ((z1 rfl ⟨hl.keep, congrArg (Value.int .i64) (by rw [rone_bad (one_1 (by rw [both_2 h10]; exact h15)) (by rw [both_2 h10]; exact h15), both_2 h10])⟩))
  ·
   refine zg ?_
   have hf : firstE [x.at_, x.dur] = 0 := by rw [both_2 h10]; simpa using h15
   refine zg ?_
   constructor <;> intro h19
   ·
    refine zg ?_
    refine blk_ret ((z1 rfl ⟨hl.keep, congrArg (Value.int .i64) (by rw [rone_bad (one_2 hf h19) rfl])⟩))
   ·
    refine xp_seq rfl (xe_toE hl 24 (.bool (rcB x)) ?_ rfl ?_)
    ·
     refine zg ?_; refine re_bool (d := 27) rfl (fun h27 => ?_) (fun h27 => ?_)
     ·
      refine zg ?_; refine rr rfl (rd_build rfl rfl (v := aggL [.int .i64 0, .int .i64 0, .int .i64 0]) (by rfl)) ?_; refine rr rfl (rd_bin rfl rfl rfl (nePitch _ _ x.p p0)) ?_; refine zg ?_
      exact ⟨rfl, bl (by unfold rcB; rw [h27]; rfl), sB, hl⟩
     ·
      refine zg ?_
      exact ⟨rfl, bl (by unfold rcB; rw [h27]; rfl), sB, hl⟩
    intro S1 hl
    refine zg ?_
    constructor <;> intro h24
    ·
     refine zg ?_
     refine blk_ret ((z1 rfl ⟨hl.keep, congrArg (Value.int .i64) (by rw [rone_bad ((one_3 hf h19 (by rw [rcB_mid h24]; rfl)).trans (rcB_mid h24)) rfl])⟩))
    ·
     refine xp_skip rfl ?_; refine xp_seq rfl (xe_cutR (fun Le S' => SubE [(3, ptrTo B3 0), (2, ptrTo B2 0), (4, .int .i64 0)] Le ∧ midE x = 0 ∧ Hold S [S] S' [(B3, .cells now.cells 50 false true []), (B2, .cells x.cells 54 false true [])]) ?_ ?_)
     ·
      refine zg ?_; refine rr rfl (rd_un rfl rfl rfl) ?_; refine zg ?_
      constructor <;> intro h35
      ·
       refine zg ?_
       refine zc hl rfl (spec109 x.p) ?_; rintro v S1 hk1 rfl hl
       refine zg ?_
       constructor <;> intro h40
       ·
        refine zg ?_
        refine cut_ret ((z1 rfl ⟨hl.keep, congrArg (Value.int .i64) (by rw [rone_bad ((one_3 hf h19 (by rw [mid_3 (by simpa using h35)]; exact h40)).trans (mid_3 (by simpa using h35))) h40])⟩))
       ·
        refine zg ?_
        exact .inl ⟨rfl, ⟨rfl, rfl, rfl, trivial⟩, by rw [mid_3 (by simpa using h35)]; simpa using h40, hl⟩
      ·
       refine zg ?_
       exact .inl ⟨rfl, ⟨rfl, rfl, rfl, trivial⟩, rcB_rest h24 (by simpa using h35), hl⟩
     clear hl; rintro Le3 S1 ⟨hsub3, hmid, hl⟩; refine xe_sub hsub3 ?_
     refine xp_seq rfl ?_; refine xp_block rfl ?_; refine xp_seq rfl (xe_toE hl 42 (.bool (decide (x.sign < 0) || decide (x.pass < 0))) ?_ rfl ?_)
     ·
      refine zg ?_; refine re_bool (d := 46) rfl (fun h46 => ?_) (fun h46 => ?_)
      ·
       refine zg ?_
       exact ⟨rfl, bl (by first | (simp [h46]; done) | (simp only [h46, BLs])), sB, hl⟩
      ·
       refine zg ?_
       exact ⟨rfl, bl (by first | (simp [h46]; done) | (simp only [h46, BLs])), sB, hl⟩
     intro S1 hl
     refine zg ?_
     constructor <;> intro h42
     ·
      refine zg ?_
      refine blk_ret ((z1 rfl ⟨hl.keep, congrArg (Value.int .i64) (by rw [rone_bad (one_4 hf h19 hmid h42) rfl])⟩))
     ·
      refine zg ?_
      constructor <;> intro h51
      ·
       refine zg ?_
       refine blk_ret ((z1 rfl ⟨hl.keep, congrArg (Value.int .i64) (by rw [rone_go (one_5 hf h19 hmid h42), h51]; rfl)⟩))
      ·
       refine zg ?_
       refine zc hl rfl (spec101 x.at_ x.dur) ?_; rintro v S1 hk1 rfl hl
       refine zg ?_
       refine y1 rfl ⟨hl.keep, congrArg (Value.int .i64) (by rw [rone_go (one_5 hf h19 hmid h42), h51]; rfl)⟩
noncomputable def cd71 : Code := Tryz.f71.body.getD .skip
theorem spec71 (a : Option Addr) (cap : Nat) (C : List Ev) (hv : Evs S (.slice a C.length cap) C) : CC Tryz.prog KK 71 [.slice a C.length cap] S (fun v S' => Keep S S' ∧ v = tupV [.int .i64 (evE C).1, .int .i64 (evE C).2]) := by
 refine cc_enter (c := cd71) (n := 41) Tryz.func71 rfl rfl rfl (by kernel_rfl) rfl rfl ?_
 have hl := Hold.start S
 refine zg ?_
 constructor <;> intro h9
 ·
  refine zg ?_
  exact (z2 rfl rfl ⟨hl.keep, by rw [ev_1 h9] <;> rfl⟩)
 ·
  refine zg ?_; refine rr rfl (rd_build rfl rfl (v := aggL zT.cells) (by rfl)) ?_; refine re_allocL hl rfl rfl rfl rfl rfl (z := [.int .i64 0, .int .i64 0]) (by kernel_rfl) ?_; intro B4 S4 hl; refine re_storeL hl 0 rfl rfl rfl rfl rfl rfl rfl (by kernel_rfl) rfl ?_; intro S1 hl; refine zA ?_; refine xp_seq rfl ?_; refine zS ?_; refine xp_block rfl ?_
  -- LOOP
  have hn : (C.length : Int) ≤ 2000 := by have := of_decide_eq_false h9; omega
  refine xe_sub (L' := [(5, .int .i64 0), (4, ptrTo B4 0), (3, .int .i64 0), (2, .int .i64 0), (0, .slice a C.length cap)]) ⟨rfl, rfl, rfl, rfl, rfl, trivial⟩ ?_
  refine xp_loop rfl (fun m Le S' => ∃ (i : Nat) (now : Ti), i ≤ C.length ∧ m = C.length - i ∧ evG (C.drop i) now i = evG C zT 0 ∧ SubE [(5, .int .i64 i), (4, ptrTo B4 0), (3, .int .i64 0), (2, .int .i64 0), (0, .slice a C.length cap)] Le ∧ HoldG S [S] S' [(B4, .cells now.cells 50 false true [])] []) ?_ (m := C.length) ⟨0, zT, by omega, rfl, rfl, ⟨rfl, rfl, rfl, rfl, rfl, trivial⟩, hl⟩
  clear hl; rintro m Le S' ⟨i, now, hi, rfl, hin, hsub, hl⟩; refine xe_sub hsub ?_
  refine zg ?_
  constructor <;> intro h14
  ·
   have hlt : i < C.length := by have := of_decide_eq_true h14; omega
   obtain ⟨x, hx⟩ := nth_some hlt
   obtain ⟨b1, o1, cs1, ha, _, hrow, htk⟩ := hv.elem hx
   rw [drop_nth' hx] at hin
   refine zg ?_; refine xp_draw (idx := [0, 1, 2, 3, 4, 5, 6]) rfl (by kernel_rfl) (by kernel_rfl) ?_; refine zg ?_
   refine zp hl rfl (spec100 x now) ?_; rintro v S1 hk1 rfl hl; refine ⟨zt, ?_⟩
   refine zg ?_
   constructor <;> intro h24
   ·
    refine zg ?_
    refine thn_ret (blk_ret (thn_ret (round_ret (blk_ret ((z2 rfl rfl ⟨hl.keep, by rw [ev_2 h9, ← hin, evG_r1 h24] <;> rfl⟩))))))
   ·
    refine zg ?_; refine xp_draw (idx := [0, 1, 2, 3, 4, 5, 6, 7, 8, 9, 10, 11, 12, 13, 14]) rfl (by kernel_rfl) (by kernel_rfl) ?_; refine zg ?_
    refine zp hl rfl (spec101 x.at_ x.dur) ?_; rintro v S1 hk1 rfl hl; refine ⟨zt, ?_⟩
    refine zg ?_
    refine rp_storeL hl 0 rfl rfl rfl rfl rfl rfl rfl (by kernel_rfl) rfl ?_; intro S1 hl; refine ⟨stays_all (by kernel_rfl), ?_⟩
    refine zg ?_
    exact ⟨C.length - (i + 1), by omega, i + 1, (addE x.at_ x.dur).1, by omega, rfl, by rw [← hin, evG_r2 h24], ⟨rfl, rfl, rfl, rfl, rfl, trivial⟩, hl⟩
  ·
   refine zg ?_
   refine y2 rfl rfl ⟨hl.keep, by rw [ev_2 h9, ← hin, List.drop_eq_nil_of_le (by have := of_decide_eq_false h14; omega)] <;> rfl⟩
end Go.Proofs.YtgiibikieblicaaGreatDoor
namespace Go.Proofs.YtgiibikieblicaaGreatDoor
open Go.Cm Go
set_option maxRecDepth 100000
variable {S : St}
section
variable {P : Program} {e t : TypeId} {z : Nat} {S S1 : St} {a : Option Addr} {n cap p q : Nat} {lo hi : Option Value}
theorem SliceAt.part {C : List (List Value)} (h : SliceAt S e z (.slice a n cap) C) (hk : RK S S1) (hu : P.underlying t = some (.slice e)) (hz : szOf P e = some z) (hpq : p ≤ q) (hq : q ≤ C.length) (hb : C.length ≤ cap → n = C.length → bounds3 n cap lo hi none = some (p, q, cap)) :
  ∃ a2 c2, sliceV P t (.slice a n cap) lo hi none S1 = some (.slice a2 (q - p) c2) ∧ SliceAt S e z (.slice a2 (q - p) c2) ((C.take q).drop p) := by
 rcases h with ⟨h1, h2⟩ | ⟨b, o, cap0, cs, e1, hcap, hr, h3⟩
 ·subst h1
  have hq0 : q = 0 := by simpa using hq
  have hp0 : p = 0 := by omega
  subst hq0; subst hp0
  rcases h2 with h2 | ⟨b, o, k, h2⟩
  ·cases h2
   refine ⟨none, 0, ?_, .inl ⟨rfl, .inl rfl⟩⟩
   unfold sliceV
   simp only [hu, hz, hb (Nat.zero_le _) rfl]
  ·cases h2
   refine ⟨some ⟨b, o, some k⟩, 0, ?_, .inl ⟨rfl, .inr ⟨b, o, k, rfl⟩⟩⟩
   unfold sliceV
   simp only [hu, hz, hb (Nat.zero_le _) rfl]
   rfl
 ·cases e1
  obtain ⟨_, own, kin, hg⟩ := hk.2 _ _ _ hr
  have hl : ((C.take q).drop p).length = q - p := by rw [List.length_drop, List.length_take]; omega
  refine ⟨some ⟨b, o + p * z, none⟩, cap - p, ?_, .inr ⟨b, o + p * z, cap - p, cs, by rw [hl], by omega, hr, fun j y hy => ?_⟩⟩
  ·unfold sliceV
   have hrs : rowSize P S1 b z = true := by
    unfold rowSize
    rw [hg]
    simp only [hz]
    exact nbeq_tt _
   simp only [hu, hz, hb hcap rfl, hrs, cond_true, Option.isSome_none, Bool.false_and, cond_false]
  ·have hj : j < q - p := by have := nth_lt hy; omega
   have : nth C (p + j) = some y := by
    rw [nth_eq] at hy ⊢
    rw [List.getElem?_drop, List.getElem?_take] at hy
    rw [if_pos (by omega)] at hy
    exact hy
   have h4 := h3 (p + j) y this
   rw [show o + p * z + j * z = o + (p + j) * z by rw [Nat.add_mul]; omega]
   exact h4
theorem bnd_hi {k : Nat} (h1 : k ≤ cap) : bounds3 n cap none (some (.int .i64 (k : Int))) none = some (0, k, cap) := by
 unfold bounds3 sliceBnd
 simp only
 rw [if_pos ⟨by omega, by omega⟩]
 rfl
theorem bnd_lo {k : Nat} (h1 : k ≤ n) (h2 : n ≤ cap) : bounds3 n cap (some (.int .i64 (k : Int))) none none = some (k, n, cap) := by
 unfold bounds3 sliceBnd
 simp only
 rw [if_pos ⟨by omega, by omega⟩]
 rfl
variable {α : Type} {f : α → List Value} {C : List α} {k : Nat}
theorem LsOf.upto (h : LsOf e z f S (.slice a n cap) C) (hk : RK S S1) (hu : P.underlying t = some (.slice e)) (hz : szOf P e = some z) (hkl : k ≤ C.length) :
  ∃ a2 c2, sliceV P t (.slice a n cap) none (some (.int .i64 (k : Int))) none S1 = some (.slice a2 (C.take k).length c2) ∧ LsOf e z f S (.slice a2 (C.take k).length c2) (C.take k) := by
 obtain ⟨a2, c2, h1, h2⟩ := SliceAt.part (p := 0) (q := k) h hk hu hz (Nat.zero_le _) (by rw [List.length_map]; exact hkl) (fun hc _ => bnd_hi (by rw [List.length_map] at hc; omega))
 rw [List.drop_zero, ← List.map_take] at h2
 have hl : (C.take k).length = k - 0 := by rw [List.length_take]; omega
 rw [hl]
 exact ⟨a2, c2, h1, h2⟩
theorem LsOf.rest (h : LsOf e z f S (.slice a n cap) C) (hk : RK S S1) (hu : P.underlying t = some (.slice e)) (hz : szOf P e = some z) (hkl : k ≤ C.length) :
  ∃ a2 c2, sliceV P t (.slice a n cap) (some (.int .i64 (k : Int))) none none S1 = some (.slice a2 (C.drop k).length c2) ∧ LsOf e z f S (.slice a2 (C.drop k).length c2) (C.drop k) := by
 obtain ⟨a2, c2, h1, h2⟩ := SliceAt.part (lo := some (.int .i64 (k : Int))) (hi := none) (p := k) (q := C.length) h hk hu hz hkl (by rw [List.length_map]; exact Nat.le_refl _) (fun hc hn => by rw [List.length_map] at hc hn; rw [bnd_lo (by omega) (by omega), hn])
 rw [List.take_of_length_le (by rw [List.length_map]; exact Nat.le_refl _), ← List.map_drop] at h2
 have hl : (C.drop k).length = C.length - k := List.length_drop
 rw [hl]
 exact ⟨a2, c2, h1, h2⟩
theorem LsOf.cells (h : LsOf e z f S (.slice a C.length cap) C) : sourceCells S z C.length (.slice a C.length cap) = some ((C.map f).flatten) := by
 have h2 := SliceAt.cells h
 rw [← h2]
theorem flatCells {f : α → List Value} (h : ∀ x, (f x).all cellV = true) : ∀ C : List α, ((C.map f).flatten).all cellV = true
 | [] => rfl
 | x :: C => by simp only [List.map_cons, List.flatten_cons, List.all_append, h x, flatCells h C, Bool.and_self]
end
def Left (S S' : St) (v : Value) : Prop := ∀ b blk, b < S.size → gb v ≠ some b → S.get b = some blk → S'.get b = some blk
theorem appendZ_none {P : Program} {S : St} {sT xT : TypeId} {xd : TypeDesc} {s x : Value} (hux : P.underlying xT = some xd) (hi : isIntT xd = false) : appendZV P [sT, xT] s x S = none := by
 unfold appendZV
 split
 ·rename_i h1
  cases h1
  rw [hux]
  split
  ·rename_i hxd
   cases hxd
   cases hi
  ·rfl
 ·rfl
theorem append_other {P : Program} {S S' : St} {ts : Array TypeId} {sT xT e : TypeId} {xd : TypeDesc} {base : Option Addr} {len m z : Nat} {x v : Value} {new : List Value}
  (h : builtinV P .append ts.toList [.slice base len len, x] S = some (v, S')) (hts : ts.toList = [sT, xT]) (hu : P.underlying sT = some (.slice e)) (hux : P.underlying xT = some xd) (hi : isIntT xd = false) (hlen : lenOfV x = some m) (hz : szOf P e = some z)
  (hs : sourceCells S z m x = some new) (hnl : new.length = m * z) : Left S S' (.slice base len len) := by
 intro b blk hb hne hg
 have h2 : append2 P e base len len m z new S = some (v, S') := by
  unfold builtinV at h
  simp only at h
  unfold appendV at h
  rw [hts] at h
  simp only [hu, hux, hlen, hi, hz, hs, cond_false] at h
  split at h
  ·rename_i q hq
   rw [hq, h]
  ·exfalso
   rw [appendZ_none hux hi] at h
   cases h
 rcases Nat.eq_zero_or_pos m with h0 | h0
 ·subst h0
  have hnew : new = [] := List.length_eq_zero_iff.1 (by rw [hnl, Nat.zero_mul])
  subst hnew
  unfold append2 at h2
  have hb : Nat.ble (len + 0) len = true := Nat.ble_eq_true_of_le (Nat.le_refl _)
  rw [hb] at h2
  simp only [cond_true] at h2
  unfold appendIn at h2
  split at h2
  ·cases h2; exact hg
  ·cases h2; exact hg
  ·revert h2
   cases (Nat.beq ([] : List Value).length 0 && (Nat.beq (len + 0) 0 && Nat.beq len 0)) with
   | true => intro h2; cases h2; exact hg
   | false => nofun
 ·have hle : Nat.ble (len + m) len = false := by
   cases hb : Nat.ble (len + m) len with
   | false => rfl
   | true => have := Nat.le_of_ble_eq_true hb; omega
  rcases (append2_base hle h2).2 b hb with h3 | h3
  ·rw [h3]; exact hg
  ·exact absurd h3 hne
theorem gb_ne {S0 S : St} {g : Gr} {B : Nat} {c : List Value} {e : TypeId} {r o : Bool} {k : List Nat} (hg : Grow S0 S g) (h : S.get B = some (.cells c e r o k)) (hne : g.c ≠ c) : gb g.v ≠ some B := by
 rcases hg with ⟨h1, _⟩ | ⟨b, kin, h1, _, _, h4, _⟩
 ·rw [h1]; exact nofun
 ·rw [h1]
  intro hb
  have : b = B := Option.some.inj hb
  subst this
  rw [h4] at h
  cases h
  exact hne rfl
section
variable {P : Program} {K : Known} {n : Nat} {ro : Option Nat} {L : Env} {S S0 : St} {Q : Post} {ops : List Oper} {d : Nat} {o : Oper} {Ts : List St} {l : List (Nat × Blk)} {gs : List Gr} {bef : List Nat} {pl : List (Oper × Nat)} {q j : Nat} {E : List CkE}
theorem rp_appendX (hl : HoldG S0 Ts S l gs) (k : Nat) {g : Gr} (hk : nth gs k = some g) (hr : (l.all fun p => !isRow p.2) = true) (hd : (gs.map (·.e)).Nodup) {us : Array Operand} {ts : Array TypeId} {sT xT : TypeId} {xd : TypeDesc} {x : Value} {m : Nat} {new : List Value}
  (ho : nth pl q = some (o, j)) (hop : o.op = .call ⟨.builtin .append, us, ts⟩) (hw : wantE ops L o = some true) (hdst : o.dst = some d) (hlt : Nat.blt d n = true) (hx : Cm.evs L us.toList = some [g.v, x]) (hts : ts.toList = [sT, xT])
  (hu : P.underlying sT = some (.slice g.e)) (hux : P.underlying xT = some xd) (hi : isIntT xd = false) (hlen : lenOfV x = some m) (hz : szOf P g.e = some g.z) (hs : sourceCells S g.z m x = some new)
  (hnl : new.length = m * g.z) (hc : new.all cellV = true) (hgb : growB P g.e g.z = true) (hneed : g.n + m ≤ maxNeed)
  (h : ∀ v S', HoldG S0 Ts S' l (setG k ⟨v, g.e, g.z, g.c ++ new, g.n + m⟩ gs) → Left S S' g.v → Stays P n S' ((nth bef j).getD 0) E ∧ RP P K n ops bef pl (q + 1) (left ((nth bef j).getD 0) E) ((d, v) :: L) S' Q) : RP P K n ops bef pl q E L S Q := by
 obtain ⟨v, S', h1, h2⟩ := append_step hl hk hr hd hts hu hux hi hlen hz hs hnl hc hgb hneed
 have h3 : Left S S' g.v := by
  obtain ⟨base, hv⟩ := Grow.is (hl.gr g (nth_mem hk))
  rw [hv] at h1 ⊢
  exact append_other h1 hts hu hux hi hlen hz hs hnl
 exact rp_heavyD ho (by rw [hop]; rfl) hw hdst hlt (fun a ha => ⟨0, by rw [hop]; unfold stepOp; simp only [kindOf, Cm.evs_eq ha hx, h1]⟩) (h v S' h2 h3).1 (h v S' h2 h3).2
end
end Go.Proofs.YtgiibikieblicaaGreatDoor
namespace Go.Proofs.YtgiibikieblicaaGreatDoor
open Go.Cm Go
set_option maxRecDepth 100000
variable {S : St}
abbrev Asc (l : List Nat) : Prop := l.Pairwise (· < ·)
theorem asc_ext : ∀ {l m : List Nat}, Asc l → Asc m → (∀ x, x ∈ l ↔ x ∈ m) → l = m
 | [], [], _, _, _ => rfl
 | [], y :: m, _, _, h => absurd ((h y).2 (List.mem_cons_self ..)) List.not_mem_nil
 | x :: l, [], _, _, h => absurd ((h x).1 (List.mem_cons_self ..)) List.not_mem_nil
 | x :: l, y :: m, hl, hm, h => by
  obtain ⟨h1, h2⟩ := List.pairwise_cons.1 hl
  obtain ⟨h3, h4⟩ := List.pairwise_cons.1 hm
  have e : x = y := by
   rcases List.mem_cons.1 ((h x).1 (List.mem_cons_self ..)) with e | hx
   ·exact e
   ·rcases List.mem_cons.1 ((h y).2 (List.mem_cons_self ..)) with e | hy
    ·exact e.symm
    ·have := h1 y hy; have := h3 x hx; omega
  subst e
  rw [asc_ext h2 h4 fun z => ⟨fun hz => by
   rcases List.mem_cons.1 ((h z).1 (List.mem_cons_of_mem _ hz)) with rfl | hz'
   ·have := h1 z hz; omega
   ·exact hz', fun hz => by
   rcases List.mem_cons.1 ((h z).2 (List.mem_cons_of_mem _ hz)) with rfl | hz'
   ·have := h3 z hz; omega
   ·exact hz'⟩]
theorem last_max : ∀ {o : List Nat} {y l : Nat}, Asc o → y ∈ o → nth o (o.length - 1) = some l → y ≤ l
 | [], _, _, _, hy, _ => (List.not_mem_nil hy).elim
 | [x], y, l, _, hy, hl => by
  cases hl
  rw [List.mem_singleton.1 hy]
  exact Nat.le_refl _
 | x :: z :: o, y, l, ho, hy, hl => by
  obtain ⟨h1, h2⟩ := List.pairwise_cons.1 ho
  have hl' : nth (z :: o) ((z :: o).length - 1) = some l := hl
  rcases List.mem_cons.1 hy with rfl | hy
  ·have := h1 l (nth_mem hl'); omega
  ·exact last_max h2 hy hl'
def hdN (a : List Nat) : Nat := (nth a 0).getD 0
def swN (a b : List Nat) : Bool := ((a.length : Int) == 0) || (decide ((b.length : Int) > 0) && decide (hdN b < hdN a))
def spN (a b : List Nat) : List Nat × List Nat := bif swN a b then (b, a) else (a, b)
def pbN (o : List Nat) (x : Nat) : Bool := ((o.length : Int) == 0) || (!decide ((nth o (o.length - 1)).getD 0 = x))
def pN (o : List Nat) (x : Nat) : List Nat := bif pbN o x then o ++ [x] else o
def mgN : Nat → List Nat → List Nat → List Nat → List Nat
 | 0, _, _, o => o
 | n + 1, a, b, o => match (spN a b).1 with
  | [] => o
  | x :: r => mgN n r (spN a b).2 (pN o x)
theorem spN_mem {a b : List Nat} (x : Nat) : (x ∈ (spN a b).1 ∨ x ∈ (spN a b).2) ↔ (x ∈ a ∨ x ∈ b) := by
 unfold spN
 cases swN a b with
 | true => exact or_comm
 | false => exact Iff.rfl
theorem pN_mem {o : List Nat} {x y : Nat} : y ∈ pN o x ↔ y ∈ o ∨ y = x := by
 unfold pN
 cases h : pbN o x with
 | true => show y ∈ o ++ [x] ↔ _; rw [List.mem_append, List.mem_singleton]
 | false =>
  refine ⟨.inl, fun h2 => h2.elim id ?_⟩
  rintro rfl
  unfold pbN at h
  cases hl : nth o (o.length - 1) with
  | none =>
   rw [hl] at h
   have : o.length ≠ 0 := by
    intro h0
    rw [h0] at h; cases h
   obtain ⟨z, hz⟩ := nth_some (l := o) (i := o.length - 1) (by omega)
   rw [hz] at hl; cases hl
  | some l =>
   rw [hl, Bool.or_eq_false_iff] at h
   have : l = y := by simpa using h.2
   rw [← this]
   exact nth_mem hl
theorem pN_asc {o : List Nat} {x : Nat} (ho : Asc o) (h : ∀ y, y ∈ o → y ≤ x) : Asc (pN o x) := by
 unfold pN
 cases hb : pbN o x with
 | false => exact ho
 | true =>
  show Asc (o ++ [x])
  refine List.pairwise_append.2 ⟨ho, List.pairwise_singleton _ _, fun y hy z hz => ?_⟩
  rw [List.mem_singleton.1 hz]
  have h1 := h y hy
  rcases Nat.lt_or_ge y x with h2 | h2
  ·exact h2
  ·have e : y = x := by omega
   subst e
   obtain ⟨l, hl⟩ := nth_some (l := o) (i := o.length - 1) (by cases o with
    | nil => exact (List.not_mem_nil hy).elim
    | cons => simp)
   have := last_max ho hy hl
   have := h l (nth_mem hl)
   have e : l = y := by omega
   unfold pbN at hb
   rw [hl, e] at hb
   have h0 : ¬ (o.length : Int) = 0 := by
    cases o with
    | nil => exact (List.not_mem_nil hy).elim
    | cons => simp; omega
   simp at hb
   subst hb
   exact (List.not_mem_nil hy).elim
theorem mgN_ok : ∀ (n : Nat) (a b o : List Nat), a.length + b.length = n → Asc a → Asc b → Asc o → (∀ x, x ∈ o → ∀ y, y ∈ a ∨ y ∈ b → x ≤ y) → Asc (mgN n a b o) ∧ ∀ x, x ∈ mgN n a b o ↔ x ∈ o ∨ x ∈ a ∨ x ∈ b
 | 0, a, b, o, hn, _, _, ho, _ => by
  obtain rfl : a = [] := List.eq_nil_of_length_eq_zero (by omega)
  obtain rfl : b = [] := List.eq_nil_of_length_eq_zero (by omega)
  exact ⟨ho, fun x => by simp [mgN]⟩
 | n + 1, a, b, o, hn, ha, hb, ho, hle => by
  have hs := spN_mem (a := a) (b := b)
  have hlen : (spN a b).1.length + (spN a b).2.length = n + 1 := by
   unfold spN
   cases swN a b with
   | true => show b.length + a.length = _; omega
   | false => exact hn
  have hA : Asc (spN a b).1 ∧ Asc (spN a b).2 := by
   unfold spN
   cases swN a b with
   | true => exact ⟨hb, ha⟩
   | false => exact ⟨ha, hb⟩
  have hfst : ∀ x r, (spN a b).1 = x :: r → ∀ z, z ∈ (spN a b).2 → x ≤ z := by
   intro x r h1 z hz
   unfold spN at h1 hz
   cases hw : swN a b with
   | true =>
    rw [hw] at h1 hz
    have h1 : b = x :: r := h1
    have hz : z ∈ a := hz
    cases a with
    | nil => exact (List.not_mem_nil hz).elim
    | cons y q =>
     subst h1
     have hxy : x < y := by
      unfold swN at hw
      simp at hw
      rcases hw with hw | hw
      ·omega
      ·exact hw
     rcases List.mem_cons.1 hz with rfl | hz
     ·omega
     ·have := (List.pairwise_cons.1 ha).1 z hz; omega
   | false =>
    rw [hw] at h1 hz
    have h1 : a = x :: r := h1
    have hz : z ∈ b := hz
    cases b with
    | nil => exact (List.not_mem_nil hz).elim
    | cons y q =>
     subst h1
     have hxy : x ≤ y := by
      unfold swN at hw
      rw [Bool.or_eq_false_iff, Bool.and_eq_false_iff] at hw
      rcases hw.2 with h | h
      ·exact absurd (of_decide_eq_false h) (by simp)
      ·have := of_decide_eq_false h
       have : ¬ y < x := this
       omega
     rcases List.mem_cons.1 hz with rfl | hz
     ·exact hxy
     ·have := (List.pairwise_cons.1 hb).1 z hz; omega
  rw [mgN]
  cases h1 : (spN a b).1 with
  | nil =>
   exfalso
   have h2 : (spN a b).2.length = n + 1 := by rw [h1] at hlen; simpa using hlen
   unfold spN at h1 h2
   cases hw : swN a b with
   | true =>
    rw [hw] at h1 h2
    have h1 : b = [] := h1
    have h2 : a.length = n + 1 := h2
    subst h1
    unfold swN at hw
    simp at hw
    subst hw
    simp at h2
   | false =>
    rw [hw] at h1 h2
    have h1 : a = [] := h1
    subst h1
    unfold swN at hw
    simp at hw
  | cons x r =>
   have hxm : x ∈ a ∨ x ∈ b := (hs x).1 (.inl (by rw [h1]; exact List.mem_cons_self ..))
   obtain ⟨hr1, hr2⟩ := List.pairwise_cons.1 (by rw [h1] at hA; exact hA.1 : Asc (x :: r))
   obtain ⟨ih1, ih2⟩ := mgN_ok n r (spN a b).2 (pN o x) (by rw [h1] at hlen; simp at hlen; omega) hr2 hA.2 (pN_asc ho fun y hy => hle y hy x hxm) (fun y hy z hz => by
    rcases pN_mem.1 hy with hy | rfl
    ·exact hle y hy z ((hs z).1 (hz.imp (fun h => by rw [h1]; exact List.mem_cons_of_mem _ h) id))
    ·rcases hz with hz | hz
     ·exact Nat.le_of_lt (hr1 z hz)
     ·exact hfst y r h1 z hz)
   refine ⟨ih1, fun y => (ih2 y).trans ?_⟩
   have hsy := hs y
   rw [h1, List.mem_cons] at hsy
   rw [pN_mem]
   constructor
   ·rintro ((h | h) | h | h)
    ·exact .inl h
    ·exact .inr (hsy.1 (.inl (.inl h)))
    ·exact .inr (hsy.1 (.inl (.inr h)))
    ·exact .inr (hsy.1 (.inr h))
   ·rintro (h | h)
    ·exact .inl (.inl h)
    ·rcases hsy.2 h with (h | h) | h
     ·exact .inl (.inr h)
     ·exact .inr (.inl h)
     ·exact .inr (.inr h)
end Go.Proofs.YtgiibikieblicaaGreatDoor
